/- The functions read plainly, and the plain law of them. Conditions: those that stand in each theorem. -/
import GoSem.Core.View
import GoSem.Op.String

/- Words of the plain reading. Conditions: none (definitions alone). -/
namespace Go.PL

def w64 (x : Int) : Int := IntKind.i64.wrap x
def w (k : IntKind) (x : Int) : Int := k.wrap x
def grd {α : Type} (c : Bool) (x : Option α) : Option α := bif c then x else none
def grz {α : Type} (b : Int) (x : Option α) : Option α := bif decide (b = 0) then none else x
def letv {α β : Type} (v : α) (k : α → β) : β := k v
def at_ {α : Type} (d : α) (xs : List α) (i : Int) : α := xs.getD i.toNat d
def inb {α : Type} (i : Int) (xs : List α) : Bool := decide (0 ≤ i) && decide (i < (xs.length : Int))
/-- A row that grew is stored where it stood. -/
def growOk {α : Type} (i' i : Int) (xs : List α) : Bool := decide (i' = i) && (decide (0 ≤ i') && decide (i' < (xs.length : Int)))
def appOk {α : Type} (s x : List α) (b : Nat) : Bool := decide ((s.length + x.length) * b ≤ 140737488355328)
def makeOk (n : Int) (b : Nat) : Bool := decide (n = n) && (decide (0 ≤ n) && decide (n * b ≤ 140737488355328))
def byteAt (s : ByteArray) (n : Int) : Option UInt8 := if 0 ≤ n then s[n.toNat]? else none
def catOk (a b : ByteArray) : Bool := decide (a.size + b.size ≤ 140737488355328)
def seq (a b : ByteArray) : Bool := a.toList == b.toList
def slt (a b : ByteArray) : Bool := Op.bytesLess a.toList b.toList
def subOk (lo hi : Int) (n : Nat) : Bool := decide (0 ≤ lo) && (decide (lo ≤ hi) && decide (hi ≤ (n : Int)))
def sub (s : ByteArray) (lo hi : Int) : ByteArray := s.extract lo.toNat hi.toNat
def ofBytes (x : List Int) : ByteArray := ⟨(x.map fun n => UInt8.ofNat n.toNat).toArray⟩
def imax (a b : Int) : Int := if b > a then b else a
def imin (a b : Int) : Int := if b < a then b else a
end Go.PL

/- The functions, read plainly. Conditions: none (definitions alone). -/
namespace Go.PL
set_option linter.unusedVariables false

def laws_szRelation (N : Nat) (a : ByteArray × Int × Int) (left_ : Int) : Option (Int) :=
  bif decide ((w64 (left_ - (a.1.size : Int))) < 0) then some (-1)
  else
  some (w64 (left_ - (a.1.size : Int)))
def laws_szRelationS_l0_b (N : Nat) (rec_ : (List (ByteArray × Int × Int)) → Int → Int → Option (Int)) (a2 : List (ByteArray × Int × Int)) (left_2 : Int) (i : Int) : Option (Int) :=
  bif decide (i < (a2.length : Int)) then
    grd (inb i a2) <|
    (laws_szRelation N ((at_ (⟨#[]⟩, (0, 0)) a2 i).1, ((at_ (⟨#[]⟩, (0, 0)) a2 i).2)) left_2).bind fun r =>
    bif decide (r < 0) then some (-1)
    else
    rec_ a2 r (w64 (i + 1))
  else
  some left_2
def laws_szRelationS_l0 (N : Nat) : Nat → (List (ByteArray × Int × Int)) → Int → Int → Option (Int)
  | 0, _, _, _ => none
  | k_ + 1, a2, left_2, i => laws_szRelationS_l0_b N (laws_szRelationS_l0 N k_) a2 left_2 i
def laws_szRelationS_b (N : Nat) (laws_szRelationS_l0S : (List (ByteArray × Int × Int)) → Int → Int → Option (Int)) (a : List (ByteArray × Int × Int)) (left_ : Int) : Option (Int) :=
  bif decide ((w64 (left_ - (a.length : Int))) < 0) then some (-1)
  else
  laws_szRelationS_l0S a (w64 (left_ - (a.length : Int))) 0
def laws_szRelationS (N : Nat) (a : List (ByteArray × Int × Int)) (left_ : Int) : Option (Int) := laws_szRelationS_b N (laws_szRelationS_l0 N N) a left_
def laws_szIntS (N : Nat) (a : List Int) (left_ : Int) : Option (Int) :=
  bif decide ((w64 (left_ - (a.length : Int))) < 0) then some (-1)
  else
  some (w64 (left_ - (a.length : Int)))
def laws_szFact (N : Nat) (a : Int × List Int) (left_ : Int) : Option (Int) :=
  (laws_szIntS N a.2 left_).bind fun r =>
  bif decide (r < 0) then some (-1)
  else
  some r
def laws_szFactS_l0_b (N : Nat) (rec_ : (List (Int × List Int)) → Int → Int → Option (Int)) (a2 : List (Int × List Int)) (left_2 : Int) (i : Int) : Option (Int) :=
  bif decide (i < (a2.length : Int)) then
    grd (inb i a2) <|
    (laws_szFact N (at_ (0, []) a2 i) left_2).bind fun r =>
    bif decide (r < 0) then some (-1)
    else
    rec_ a2 r (w64 (i + 1))
  else
  some left_2
def laws_szFactS_l0 (N : Nat) : Nat → (List (Int × List Int)) → Int → Int → Option (Int)
  | 0, _, _, _ => none
  | k_ + 1, a2, left_2, i => laws_szFactS_l0_b N (laws_szFactS_l0 N k_) a2 left_2 i
def laws_szFactS_b (N : Nat) (laws_szFactS_l0S : (List (Int × List Int)) → Int → Int → Option (Int)) (a : List (Int × List Int)) (left_ : Int) : Option (Int) :=
  bif decide ((w64 (left_ - (a.length : Int))) < 0) then some (-1)
  else
  laws_szFactS_l0S a (w64 (left_ - (a.length : Int))) 0
def laws_szFactS (N : Nat) (a : List (Int × List Int)) (left_ : Int) : Option (Int) := laws_szFactS_b N (laws_szFactS_l0 N N) a left_
def laws_szDatabase (N : Nat) (a : List (ByteArray × Int × Int) × List (Int × List Int)) (left_ : Int) : Option (Int) :=
  (laws_szRelationS N a.1 left_).bind fun r =>
  bif decide (r < 0) then some (-1)
  else
  (laws_szFactS N a.2 r).bind fun r2 =>
  bif decide (r2 < 0) then some (-1)
  else
  some r2
def laws_toRelation (N : Nat) (a : ByteArray × Int × Int) : Option (ByteArray × Int × Int) :=
  some a
def laws_toRelationS_l0_b (N : Nat) (rec_ : (List (ByteArray × Int × Int)) → (List (ByteArray × Int × Int)) → Int → Option (List (ByteArray × Int × Int))) (a2 : List (ByteArray × Int × Int)) (out : List (ByteArray × Int × Int)) (i : Int) : Option (List (ByteArray × Int × Int)) :=
  bif decide (i < (a2.length : Int)) then
    grd (inb i a2) <|
    (laws_toRelation N ((at_ (⟨#[]⟩, (0, 0)) a2 i).1, ((at_ (⟨#[]⟩, (0, 0)) a2 i).2))).bind fun r =>
    grd (inb i out) <|
    grd (inb i out) <|
    letv (out.set i.toNat r) fun u =>
    rec_ a2 u (w64 (i + 1))
  else
  some out
def laws_toRelationS_l0 (N : Nat) : Nat → (List (ByteArray × Int × Int)) → (List (ByteArray × Int × Int)) → Int → Option (List (ByteArray × Int × Int))
  | 0, _, _, _ => none
  | k_ + 1, a2, out, i => laws_toRelationS_l0_b N (laws_toRelationS_l0 N k_) a2 out i
def laws_toRelationS_b (N : Nat) (laws_toRelationS_l0S : (List (ByteArray × Int × Int)) → (List (ByteArray × Int × Int)) → Int → Option (List (ByteArray × Int × Int))) (a : List (ByteArray × Int × Int)) : Option (List (ByteArray × Int × Int)) :=
  grd (makeOk (a.length : Int) 32) <|
  laws_toRelationS_l0S a (List.replicate (a.length : Int).toNat (⟨#[]⟩, (0, 0))) 0
def laws_toRelationS (N : Nat) (a : List (ByteArray × Int × Int)) : Option (List (ByteArray × Int × Int)) := laws_toRelationS_b N (laws_toRelationS_l0 N N) a
def laws_toIntS_l0_b (N : Nat) (rec_ : (List Int) → (List Int) → Int → Option (List Int)) (a2 : List Int) (out : List Int) (i : Int) : Option (List Int) :=
  bif decide (i < (a2.length : Int)) then
    grd (inb i a2) <|
    grd (inb i out) <|
    grd (inb i out) <|
    letv (out.set i.toNat (at_ 0 a2 i)) fun u =>
    rec_ a2 u (w64 (i + 1))
  else
  some out
def laws_toIntS_l0 (N : Nat) : Nat → (List Int) → (List Int) → Int → Option (List Int)
  | 0, _, _, _ => none
  | k_ + 1, a2, out, i => laws_toIntS_l0_b N (laws_toIntS_l0 N k_) a2 out i
def laws_toIntS_b (N : Nat) (laws_toIntS_l0S : (List Int) → (List Int) → Int → Option (List Int)) (a : List Int) : Option (List Int) :=
  grd (makeOk (a.length : Int) 8) <|
  laws_toIntS_l0S a (List.replicate (a.length : Int).toNat 0) 0
def laws_toIntS (N : Nat) (a : List Int) : Option (List Int) := laws_toIntS_b N (laws_toIntS_l0 N N) a
def laws_toFact (N : Nat) (a : Int × List Int) : Option (Int × List Int) :=
  (laws_toIntS N a.2).bind fun r =>
  some (a.1, r)
def laws_toFactS_l0_b (N : Nat) (rec_ : (List (Int × List Int)) → (List (Int × List Int)) → Int → Option (List (Int × List Int))) (a2 : List (Int × List Int)) (out : List (Int × List Int)) (i : Int) : Option (List (Int × List Int)) :=
  bif decide (i < (a2.length : Int)) then
    grd (inb i a2) <|
    (laws_toFact N (at_ (0, []) a2 i)).bind fun r =>
    grd (inb i out) <|
    grd (inb i out) <|
    letv (out.set i.toNat r) fun u =>
    rec_ a2 u (w64 (i + 1))
  else
  some out
def laws_toFactS_l0 (N : Nat) : Nat → (List (Int × List Int)) → (List (Int × List Int)) → Int → Option (List (Int × List Int))
  | 0, _, _, _ => none
  | k_ + 1, a2, out, i => laws_toFactS_l0_b N (laws_toFactS_l0 N k_) a2 out i
def laws_toFactS_b (N : Nat) (laws_toFactS_l0S : (List (Int × List Int)) → (List (Int × List Int)) → Int → Option (List (Int × List Int))) (a : List (Int × List Int)) : Option (List (Int × List Int)) :=
  grd (makeOk (a.length : Int) 32) <|
  laws_toFactS_l0S a (List.replicate (a.length : Int).toNat (0, [])) 0
def laws_toFactS (N : Nat) (a : List (Int × List Int)) : Option (List (Int × List Int)) := laws_toFactS_b N (laws_toFactS_l0 N N) a
def laws_toDatabase (N : Nat) (a : List (ByteArray × Int × Int) × List (Int × List Int)) : Option (List (ByteArray × Int × Int) × List (Int × List Int)) :=
  (laws_toRelationS N a.1).bind fun r =>
  (laws_toFactS N a.2).bind fun r2 =>
  some (r, r2)
def spec_l1In (N : Nat) (x : Int) (low : Int) (high : Int) : Option (Bool) :=
  bif decide (x ≥ low) then some (decide (x ≤ high))
  else
  some false
def spec_IsValidRelation (N : Nat) (s : ByteArray × Int × Int) : Option (Bool) :=
  bif ((s.1.size : Int) == 1) then
    (byteAt s.1 0).bind fun b =>
    bif decide ((b.toNat : Int) ≥ 97) then
      (byteAt s.1 0).bind fun b2 =>
      bif decide ((b2.toNat : Int) ≤ 122) then
        (spec_l1In N s.2.1 1 3).bind fun r =>
        bif r then
          (spec_l1In N s.2.2 0 s.2.1).bind fun r2 =>
          some r2
        else
        some false
      else
      some false
    else
    some false
  else
  some false
def spec_AreValidRelations_l0_b (N : Nat) (rec_ : (List (ByteArray × Int × Int)) → Int → Option (Bool)) (l2 : List (ByteArray × Int × Int)) (i : Int) : Option (Bool) :=
  bif decide (i < (l2.length : Int)) then
    grd (inb i l2) <|
    (spec_IsValidRelation N ((at_ (⟨#[]⟩, (0, 0)) l2 i).1, ((at_ (⟨#[]⟩, (0, 0)) l2 i).2))).bind fun r =>
    bif (!r) then some false
    else
    bif decide (i > 0) then
      grd (inb (w64 (i - 1)) l2) <|
      grd (inb i l2) <|
      bif (!slt ((at_ (⟨#[]⟩, (0, 0)) l2 (w64 (i - 1))).1) ((at_ (⟨#[]⟩, (0, 0)) l2 i).1)) then some false
      else
      rec_ l2 (w64 (i + 1))
    else
    rec_ l2 (w64 (i + 1))
  else
  some (decide ((l2.length : Int) ≤ 4))
def spec_AreValidRelations_l0 (N : Nat) : Nat → (List (ByteArray × Int × Int)) → Int → Option (Bool)
  | 0, _, _ => none
  | k_ + 1, l2, i => spec_AreValidRelations_l0_b N (spec_AreValidRelations_l0 N k_) l2 i
def spec_AreValidRelations_b (N : Nat) (spec_AreValidRelations_l0S : (List (ByteArray × Int × Int)) → Int → Option (Bool)) (l : List (ByteArray × Int × Int)) : Option (Bool) :=
  spec_AreValidRelations_l0S l 0
def spec_AreValidRelations (N : Nat) (l : List (ByteArray × Int × Int)) : Option (Bool) := spec_AreValidRelations_b N (spec_AreValidRelations_l0 N N) l
def spec_IsValidFact_l0_b (N : Nat) (rec_ : Int → (List Int) → Int → Option (Bool)) (f2 : Int) (f3 : List Int) (i : Int) : Option (Bool) :=
  bif decide (i < (f3.length : Int)) then
    grd (inb i f3) <|
    (spec_l1In N (at_ 0 f3 i) 0 9).bind fun r3 =>
    bif (!r3) then some false
    else
    rec_ f2 f3 (w64 (i + 1))
  else
  some true
def spec_IsValidFact_l0 (N : Nat) : Nat → Int → (List Int) → Int → Option (Bool)
  | 0, _, _, _ => none
  | k_ + 1, f2, f3, i => spec_IsValidFact_l0_b N (spec_IsValidFact_l0 N k_) f2 f3 i
def spec_IsValidFact_b (N : Nat) (spec_IsValidFact_l0S : Int → (List Int) → Int → Option (Bool)) (l : List (ByteArray × Int × Int)) (f : Int × List Int) : Option (Bool) :=
  (spec_AreValidRelations N l).bind fun r =>
  bif (!r) then some false
  else
  (spec_l1In N f.1 0 (w64 ((l.length : Int) - 1))).bind fun r2 =>
  bif (!r2) then some false
  else
  grd (inb f.1 l) <|
  bif ((f.2.length : Int) != (((at_ (⟨#[]⟩, (0, 0)) l f.1).2).1)) then some false
  else
  spec_IsValidFact_l0S f.1 f.2 0
def spec_IsValidFact (N : Nat) (l : List (ByteArray × Int × Int)) (f : Int × List Int) : Option (Bool) := spec_IsValidFact_b N (spec_IsValidFact_l0 N N) l f
def spec_l3Ints_l0_b (N : Nat) (rec_ : (List Int) → (List Int) → Int → Option (Int)) (a2 : List Int) (b2 : List Int) (i : Int) : Option (Int) :=
  bif decide (i < (a2.length : Int)) then
    bif decide (i < (b2.length : Int)) then
      grd (inb i a2) <|
      grd (inb i b2) <|
      bif decide ((at_ 0 a2 i) < (at_ 0 b2 i)) then some (-1)
      else
      grd (inb i a2) <|
      grd (inb i b2) <|
      bif decide ((at_ 0 a2 i) > (at_ 0 b2 i)) then some 1
      else
      rec_ a2 b2 (w64 (i + 1))
    else
    bif decide ((a2.length : Int) < (b2.length : Int)) then some (-1)
    else
    bif decide ((a2.length : Int) > (b2.length : Int)) then some 1
    else
    some 0
  else
  bif decide ((a2.length : Int) < (b2.length : Int)) then some (-1)
  else
  bif decide ((a2.length : Int) > (b2.length : Int)) then some 1
  else
  some 0
def spec_l3Ints_l0 (N : Nat) : Nat → (List Int) → (List Int) → Int → Option (Int)
  | 0, _, _, _ => none
  | k_ + 1, a2, b2, i => spec_l3Ints_l0_b N (spec_l3Ints_l0 N k_) a2 b2 i
def spec_l3Ints_b (N : Nat) (spec_l3Ints_l0S : (List Int) → (List Int) → Int → Option (Int)) (a : List Int) (b : List Int) : Option (Int) :=
  spec_l3Ints_l0S a b 0
def spec_l3Ints (N : Nat) (a : List Int) (b : List Int) : Option (Int) := spec_l3Ints_b N (spec_l3Ints_l0 N N) a b
def spec_CompareFacts (N : Nat) (a : Int × List Int) (b : Int × List Int) : Option (Int) :=
  bif decide (a.1 < b.1) then some (-1)
  else
  bif decide (a.1 > b.1) then some 1
  else
  (spec_l3Ints N a.2 b.2).bind fun r =>
  some r
def spec_IsValidDatabase_l0_b (N : Nat) (rec_ : (List (ByteArray × Int × Int)) → (List (Int × List Int)) → Int → Option (Bool)) (d2 : List (ByteArray × Int × Int)) (d3 : List (Int × List Int)) (i : Int) : Option (Bool) :=
  bif decide (i < (d3.length : Int)) then
    grd (inb i d3) <|
    (spec_IsValidFact N d2 (at_ (0, []) d3 i)).bind fun r =>
    bif (!r) then some false
    else
    bif decide (i > 0) then
      grd (inb (w64 (i - 1)) d3) <|
      grd (inb i d3) <|
      (spec_CompareFacts N (at_ (0, []) d3 (w64 (i - 1))) (at_ (0, []) d3 i)).bind fun r2 =>
      bif decide (r2 ≥ 0) then some false
      else
      rec_ d2 d3 (w64 (i + 1))
    else
    rec_ d2 d3 (w64 (i + 1))
  else
  (spec_AreValidRelations N d2).bind fun r3 =>
  bif r3 then some (decide ((d3.length : Int) ≤ 14))
  else
  some false
def spec_IsValidDatabase_l0 (N : Nat) : Nat → (List (ByteArray × Int × Int)) → (List (Int × List Int)) → Int → Option (Bool)
  | 0, _, _, _ => none
  | k_ + 1, d2, d3, i => spec_IsValidDatabase_l0_b N (spec_IsValidDatabase_l0 N k_) d2 d3 i
def spec_IsValidDatabase_b (N : Nat) (spec_IsValidDatabase_l0S : (List (ByteArray × Int × Int)) → (List (Int × List Int)) → Int → Option (Bool)) (d : List (ByteArray × Int × Int) × List (Int × List Int)) : Option (Bool) :=
  spec_IsValidDatabase_l0S d.1 d.2 0
def spec_IsValidDatabase (N : Nat) (d : List (ByteArray × Int × Int) × List (Int × List Int)) : Option (Bool) := spec_IsValidDatabase_b N (spec_IsValidDatabase_l0 N N) d
def spec_AreValidWeights_l0_b (N : Nat) (rec_ : (List Int) → (List (ByteArray × Int × Int)) → (List (Int × List Int)) → Int → Option (Bool)) (w2 : List Int) (d2 : List (ByteArray × Int × Int)) (d3 : List (Int × List Int)) (i : Int) : Option (Bool) :=
  bif decide (i < (w2.length : Int)) then
    grd (inb i w2) <|
    (spec_l1In N (at_ 0 w2 i) 1 9).bind fun r =>
    bif (!r) then some false
    else
    rec_ w2 d2 d3 (w64 (i + 1))
  else
  (spec_IsValidDatabase N (d2, d3)).bind fun r2 =>
  bif r2 then some ((w2.length : Int) == (d3.length : Int))
  else
  some false
def spec_AreValidWeights_l0 (N : Nat) : Nat → (List Int) → (List (ByteArray × Int × Int)) → (List (Int × List Int)) → Int → Option (Bool)
  | 0, _, _, _, _ => none
  | k_ + 1, w2, d2, d3, i => spec_AreValidWeights_l0_b N (spec_AreValidWeights_l0 N k_) w2 d2 d3 i
def spec_AreValidWeights_b (N : Nat) (spec_AreValidWeights_l0S : (List Int) → (List (ByteArray × Int × Int)) → (List (Int × List Int)) → Int → Option (Bool)) (d : List (ByteArray × Int × Int) × List (Int × List Int)) (w : List Int) : Option (Bool) :=
  spec_AreValidWeights_l0S w d.1 d.2 0
def spec_AreValidWeights (N : Nat) (d : List (ByteArray × Int × Int) × List (Int × List Int)) (w : List Int) : Option (Bool) := spec_AreValidWeights_b N (spec_AreValidWeights_l0 N N) d w
def spec_KeyOf (N : Nat) (l : List (ByteArray × Int × Int)) (f : Int × List Int) : Option (List Int) :=
  (spec_IsValidFact N l f).bind fun r =>
  bif (!r) then some []
  else
  grd (inb f.1 l) <|
  grd (subOk 0 (((at_ (⟨#[]⟩, (0, 0)) l f.1).2).2) f.2.length) <|
  grd (appOk [] (f.2.take (((at_ (⟨#[]⟩, (0, 0)) l f.1).2).2).toNat) 8) <|
  some (f.2.take (((at_ (⟨#[]⟩, (0, 0)) l f.1).2).2).toNat)
def spec_HaveSameKey (N : Nat) (l : List (ByteArray × Int × Int)) (a : Int × List Int) (b : Int × List Int) : Option (Bool) :=
  (spec_IsValidFact N l a).bind fun r =>
  bif r then
    (spec_IsValidFact N l b).bind fun r2 =>
    bif r2 then
      bif (a.1 == b.1) then
        (spec_KeyOf N l a).bind fun r3 =>
        (spec_KeyOf N l b).bind fun r4 =>
        (spec_l3Ints N r3 r4).bind fun r5 =>
        some (r5 == 0)
      else
      some false
    else
    some false
  else
  some false
def spec_BlockOf_l0_b (N : Nat) (rec_ : Int → (List (ByteArray × Int × Int)) → (List (Int × List Int)) → (List Int) → Int → Option (List Int)) (i2 : Int) (d2 : List (ByteArray × Int × Int)) (d3 : List (Int × List Int)) (out : List Int) (k : Int) : Option (List Int) :=
  bif decide (k < (d3.length : Int)) then
    (spec_IsValidDatabase N (d2, d3)).bind fun r =>
    bif r then
      (spec_l1In N i2 0 (w64 ((d3.length : Int) - 1))).bind fun r2 =>
      bif r2 then
        grd (inb i2 d3) <|
        grd (inb k d3) <|
        (spec_HaveSameKey N d2 (at_ (0, []) d3 i2) (at_ (0, []) d3 k)).bind fun r3 =>
        bif r3 then
          grd (appOk out [k] 8) <|
          rec_ i2 d2 d3 (out ++ [k]) (w64 (k + 1))
        else
        rec_ i2 d2 d3 out (w64 (k + 1))
      else
      some out
    else
    some out
  else
  some out
def spec_BlockOf_l0 (N : Nat) : Nat → Int → (List (ByteArray × Int × Int)) → (List (Int × List Int)) → (List Int) → Int → Option (List Int)
  | 0, _, _, _, _, _ => none
  | k_ + 1, i2, d2, d3, out, k => spec_BlockOf_l0_b N (spec_BlockOf_l0 N k_) i2 d2 d3 out k
def spec_BlockOf_b (N : Nat) (spec_BlockOf_l0S : Int → (List (ByteArray × Int × Int)) → (List (Int × List Int)) → (List Int) → Int → Option (List Int)) (d : List (ByteArray × Int × Int) × List (Int × List Int)) (i : Int) : Option (List Int) :=
  spec_BlockOf_l0S i d.1 d.2 [] 0
def spec_BlockOf (N : Nat) (d : List (ByteArray × Int × Int) × List (Int × List Int)) (i : Int) : Option (List Int) := spec_BlockOf_b N (spec_BlockOf_l0 N N) d i
def spec_Blocks_l0_b (N : Nat) (rec_ : (List (ByteArray × Int × Int)) → (List (Int × List Int)) → (List (List Int)) → Int → Option (List (List Int))) (d2 : List (ByteArray × Int × Int)) (d3 : List (Int × List Int)) (out : List (List Int)) (i : Int) : Option (List (List Int)) :=
  bif decide (i < (d3.length : Int)) then
    (spec_IsValidDatabase N (d2, d3)).bind fun r =>
    bif r then
      (spec_BlockOf N (d2, d3) i).bind fun r2 =>
      grd (inb 0 r2) <|
      bif ((at_ 0 r2 0) == i) then
        grd (appOk out [r2] 24) <|
        rec_ d2 d3 (out ++ [r2]) (w64 (i + 1))
      else
      rec_ d2 d3 out (w64 (i + 1))
    else
    some out
  else
  some out
def spec_Blocks_l0 (N : Nat) : Nat → (List (ByteArray × Int × Int)) → (List (Int × List Int)) → (List (List Int)) → Int → Option (List (List Int))
  | 0, _, _, _, _ => none
  | k_ + 1, d2, d3, out, i => spec_Blocks_l0_b N (spec_Blocks_l0 N k_) d2 d3 out i
def spec_Blocks_b (N : Nat) (spec_Blocks_l0S : (List (ByteArray × Int × Int)) → (List (Int × List Int)) → (List (List Int)) → Int → Option (List (List Int))) (d : List (ByteArray × Int × Int) × List (Int × List Int)) : Option (List (List Int)) :=
  spec_Blocks_l0S d.1 d.2 [] 0
def spec_Blocks (N : Nat) (d : List (ByteArray × Int × Int) × List (Int × List Int)) : Option (List (List Int)) := spec_Blocks_b N (spec_Blocks_l0 N N) d
def spec_l7Sorted_l1_b (N : Nat) (spec_l7Sorted_l0R : (List Int) → (List Int) → Int → Option (List Int)) (rec_ : (List Int) → (List Int) → Int → Int → Option (List Int)) (l3 : List Int) (out2 : List Int) (i2 : Int) (k : Int) : Option (List Int) :=
  bif decide (k > 0) then
    grd (inb (w64 (k - 1)) out2) <|
    grd (inb i2 l3) <|
    bif decide ((at_ 0 out2 (w64 (k - 1))) > (at_ 0 l3 i2)) then rec_ l3 out2 i2 (w64 (k - 1))
    else
    grd (subOk 0 k out2.length) <|
    grd (appOk [] (out2.take k.toNat) 8) <|
    grd (inb i2 l3) <|
    grd (appOk (out2.take k.toNat) [(at_ 0 l3 i2)] 8) <|
    grd (subOk k (out2.length : Int) out2.length) <|
    grd (appOk ((out2.take k.toNat) ++ [(at_ 0 l3 i2)]) (out2.drop k.toNat) 8) <|
    spec_l7Sorted_l0R l3 (((out2.take k.toNat) ++ [(at_ 0 l3 i2)]) ++ (out2.drop k.toNat)) (w64 (i2 + 1))
  else
  grd (subOk 0 k out2.length) <|
  grd (appOk [] (out2.take k.toNat) 8) <|
  grd (inb i2 l3) <|
  grd (appOk (out2.take k.toNat) [(at_ 0 l3 i2)] 8) <|
  grd (subOk k (out2.length : Int) out2.length) <|
  grd (appOk ((out2.take k.toNat) ++ [(at_ 0 l3 i2)]) (out2.drop k.toNat) 8) <|
  spec_l7Sorted_l0R l3 (((out2.take k.toNat) ++ [(at_ 0 l3 i2)]) ++ (out2.drop k.toNat)) (w64 (i2 + 1))
def spec_l7Sorted_l1 (spec_l7Sorted_l0R : (List Int) → (List Int) → Int → Option (List Int)) (N : Nat) : Nat → (List Int) → (List Int) → Int → Int → Option (List Int)
  | 0, _, _, _, _ => none
  | k_ + 1, l3, out2, i2, k => spec_l7Sorted_l1_b N spec_l7Sorted_l0R (spec_l7Sorted_l1 spec_l7Sorted_l0R N k_) l3 out2 i2 k
def spec_l7Sorted_l0_b (N : Nat) (spec_l7Sorted_l1S : (List Int) → (List Int) → Int → Int → Option (List Int)) (rec_ : (List Int) → (List Int) → Int → Option (List Int)) (l2 : List Int) (out : List Int) (i : Int) : Option (List Int) :=
  bif decide (i < (l2.length : Int)) then spec_l7Sorted_l1S l2 out i (out.length : Int)
  else
  some out
def spec_l7Sorted_l0 (N : Nat) : Nat → (List Int) → (List Int) → Int → Option (List Int)
  | 0, _, _, _ => none
  | k_ + 1, l2, out, i => spec_l7Sorted_l0_b N (spec_l7Sorted_l1 (spec_l7Sorted_l0 N k_) N N) (spec_l7Sorted_l0 N k_) l2 out i
def spec_l7Sorted_b (N : Nat) (spec_l7Sorted_l0S : (List Int) → (List Int) → Int → Option (List Int)) (l : List Int) : Option (List Int) :=
  spec_l7Sorted_l0S l [] 0
def spec_l7Sorted (N : Nat) (l : List Int) : Option (List Int) := spec_l7Sorted_b N (spec_l7Sorted_l0 N N) l
def spec_MostLikelyRepair_l1_b (N : Nat) (spec_MostLikelyRepair_l0R : (List Int) → (List Int) → (List (List Int)) → Int → Option (List Int × Bool)) (rec_ : (List Int) → (List Int) → (List (List Int)) → Int → Int → Int → Option (List Int × Bool)) (w3 : List Int) (out2 : List Int) (b2 : List (List Int)) (i2 : Int) (best : Int) (k : Int) : Option (List Int × Bool) :=
  grd (inb i2 b2) <|
  bif decide (k < ((at_ [] b2 i2).length : Int)) then
    grd (inb i2 b2) <|
    grd (inb k (at_ [] b2 i2)) <|
    grd (inb (at_ 0 (at_ [] b2 i2) k) w3) <|
    grd (inb best w3) <|
    bif decide ((at_ 0 w3 (at_ 0 (at_ [] b2 i2) k)) > (at_ 0 w3 best)) then
      grd (inb i2 b2) <|
      grd (inb k (at_ [] b2 i2)) <|
      rec_ w3 out2 b2 i2 (at_ 0 (at_ [] b2 i2) k) (w64 (k + 1))
    else
    rec_ w3 out2 b2 i2 best (w64 (k + 1))
  else
  grd (appOk out2 [best] 8) <|
  spec_MostLikelyRepair_l0R w3 (out2 ++ [best]) b2 (w64 (i2 + 1))
def spec_MostLikelyRepair_l1 (spec_MostLikelyRepair_l0R : (List Int) → (List Int) → (List (List Int)) → Int → Option (List Int × Bool)) (N : Nat) : Nat → (List Int) → (List Int) → (List (List Int)) → Int → Int → Int → Option (List Int × Bool)
  | 0, _, _, _, _, _, _ => none
  | k_ + 1, w3, out2, b2, i2, best, k => spec_MostLikelyRepair_l1_b N spec_MostLikelyRepair_l0R (spec_MostLikelyRepair_l1 spec_MostLikelyRepair_l0R N k_) w3 out2 b2 i2 best k
def spec_MostLikelyRepair_l0_b (N : Nat) (spec_MostLikelyRepair_l1S : (List Int) → (List Int) → (List (List Int)) → Int → Int → Int → Option (List Int × Bool)) (rec_ : (List Int) → (List Int) → (List (List Int)) → Int → Option (List Int × Bool)) (w2 : List Int) (out : List Int) (b : List (List Int)) (i : Int) : Option (List Int × Bool) :=
  bif decide (i < (b.length : Int)) then
    grd (inb i b) <|
    grd (inb 0 (at_ [] b i)) <|
    spec_MostLikelyRepair_l1S w2 out b i (at_ 0 (at_ [] b i) 0) 1
  else
  (spec_l7Sorted N out).bind fun r3 =>
  some (r3, true)
def spec_MostLikelyRepair_l0 (N : Nat) : Nat → (List Int) → (List Int) → (List (List Int)) → Int → Option (List Int × Bool)
  | 0, _, _, _, _ => none
  | k_ + 1, w2, out, b, i => spec_MostLikelyRepair_l0_b N (spec_MostLikelyRepair_l1 (spec_MostLikelyRepair_l0 N k_) N N) (spec_MostLikelyRepair_l0 N k_) w2 out b i
def spec_MostLikelyRepair_b (N : Nat) (spec_MostLikelyRepair_l0S : (List Int) → (List Int) → (List (List Int)) → Int → Option (List Int × Bool)) (d : List (ByteArray × Int × Int) × List (Int × List Int)) (w : List Int) : Option (List Int × Bool) :=
  (spec_AreValidWeights N d w).bind fun r =>
  bif (!r) then some ([], false)
  else
  (spec_Blocks N d).bind fun r2 =>
  spec_MostLikelyRepair_l0S w [] r2 0
def spec_MostLikelyRepair (N : Nat) (d : List (ByteArray × Int × Int) × List (Int × List Int)) (w : List Int) : Option (List Int × Bool) := spec_MostLikelyRepair_b N (spec_MostLikelyRepair_l0 N N) d w
def impl_within (N : Nat) (n : Int) (low : Int) (high : Int) : Option (Bool) :=
  bif decide (low ≤ n) then some (decide (n ≤ high))
  else
  some false
def impl_IsValidRelation (N : Nat) (relation : ByteArray × Int × Int) : Option (Bool) :=
  bif ((relation.1.size : Int) == 1) then
    (byteAt relation.1 0).bind fun b =>
    bif decide ((b.toNat : Int) ≥ 97) then
      (byteAt relation.1 0).bind fun b2 =>
      bif decide ((b2.toNat : Int) ≤ 122) then
        (impl_within N relation.2.1 1 3).bind fun r =>
        bif r then
          (impl_within N relation.2.2 0 relation.2.1).bind fun r2 =>
          some r2
        else
        some false
      else
      some false
    else
    some false
  else
  some false
def impl_AreValidRelations_l0_b (N : Nat) (rec_ : (List (ByteArray × Int × Int)) → (List (ByteArray × Int × Int)) → Int → Int → Option (Bool)) (relations2 : List (ByteArray × Int × Int)) (t5 : List (ByteArray × Int × Int)) (t6 : Int) (t7 : Int) : Option (Bool) :=
  bif decide (t7 < t6) then
    grd (inb t7 t5) <|
    (impl_IsValidRelation N ((at_ (⟨#[]⟩, (0, 0)) t5 t7).1, ((at_ (⟨#[]⟩, (0, 0)) t5 t7).2))).bind fun r =>
    bif (!r) then some false
    else
    bif decide (t7 > 0) then
      grd (inb (w64 (t7 - 1)) relations2) <|
      bif (!slt ((at_ (⟨#[]⟩, (0, 0)) relations2 (w64 (t7 - 1))).1) ((at_ (⟨#[]⟩, (0, 0)) t5 t7).1)) then some false
      else
      rec_ relations2 t5 t6 (w64 (t7 + 1))
    else
    rec_ relations2 t5 t6 (w64 (t7 + 1))
  else
  some (decide ((relations2.length : Int) ≤ 4))
def impl_AreValidRelations_l0 (N : Nat) : Nat → (List (ByteArray × Int × Int)) → (List (ByteArray × Int × Int)) → Int → Int → Option (Bool)
  | 0, _, _, _, _ => none
  | k_ + 1, relations2, t5, t6, t7 => impl_AreValidRelations_l0_b N (impl_AreValidRelations_l0 N k_) relations2 t5 t6 t7
def impl_AreValidRelations_b (N : Nat) (impl_AreValidRelations_l0S : (List (ByteArray × Int × Int)) → (List (ByteArray × Int × Int)) → Int → Int → Option (Bool)) (relations : List (ByteArray × Int × Int)) : Option (Bool) :=
  impl_AreValidRelations_l0S relations relations (relations.length : Int) 0
def impl_AreValidRelations (N : Nat) (relations : List (ByteArray × Int × Int)) : Option (Bool) := impl_AreValidRelations_b N (impl_AreValidRelations_l0 N N) relations
def impl_areValues_c1 (N : Nat) (v : Int) : Option (Bool) :=
  (impl_within N v 0 9).bind fun r =>
  some (!r)
def slices_IndexFunc_Lint_int_areValues_c1_l0_b (N : Nat) (rec_ : (List Int) → Int → Int → Option (Int)) (s2 : List Int) (t7 : Int) (t8 : Int) : Option (Int) :=
  bif decide (t8 < t7) then
    grd (inb t8 s2) <|
    (impl_areValues_c1 N (at_ 0 s2 t8)).bind fun r =>
    bif r then some t8
    else
    rec_ s2 t7 (w64 (t8 + 1))
  else
  some (-1)
def slices_IndexFunc_Lint_int_areValues_c1_l0 (N : Nat) : Nat → (List Int) → Int → Int → Option (Int)
  | 0, _, _, _ => none
  | k_ + 1, s2, t7, t8 => slices_IndexFunc_Lint_int_areValues_c1_l0_b N (slices_IndexFunc_Lint_int_areValues_c1_l0 N k_) s2 t7 t8
def slices_IndexFunc_Lint_int_areValues_c1_b (N : Nat) (slices_IndexFunc_Lint_int_areValues_c1_l0S : (List Int) → Int → Int → Option (Int)) (s : List Int) : Option (Int) :=
  slices_IndexFunc_Lint_int_areValues_c1_l0S s (s.length : Int) 0
def slices_IndexFunc_Lint_int_areValues_c1 (N : Nat) (s : List Int) : Option (Int) := slices_IndexFunc_Lint_int_areValues_c1_b N (slices_IndexFunc_Lint_int_areValues_c1_l0 N N) s
def slices_ContainsFunc_Lint_int_areValues_c1 (N : Nat) (s : List Int) : Option (Bool) :=
  (slices_IndexFunc_Lint_int_areValues_c1 N s).bind fun r =>
  some (decide (r ≥ 0))
def impl_areValues (N : Nat) (list : List Int) : Option (Bool) :=
  (slices_ContainsFunc_Lint_int_areValues_c1 N list).bind fun r =>
  some (!r)
def impl_isFact (N : Nat) (relations : List (ByteArray × Int × Int)) (fact : Int × List Int) : Option (Bool) :=
  (impl_within N fact.1 0 (w64 ((relations.length : Int) - 1))).bind fun r =>
  bif r then
    grd (inb fact.1 relations) <|
    bif ((fact.2.length : Int) == (((at_ (⟨#[]⟩, (0, 0)) relations fact.1).2).1)) then
      (impl_areValues N fact.2).bind fun r2 =>
      some r2
    else
    some false
  else
  some false
def impl_compare (N : Nat) (a : Int) (b : Int) : Option (Int) :=
  bif decide (a < b) then some (-1)
  else
  bif decide (a > b) then some 1
  else
  some 0
def cmp_isNaN_int (N : Nat) (x : Int) : Option (Bool) :=
  some (x != x)
def cmp_Compare_int (N : Nat) (x : Int) (y : Int) : Option (Int) :=
  (cmp_isNaN_int N x).bind fun r =>
  (cmp_isNaN_int N y).bind fun r2 =>
  bif r then
    bif r2 then some 0
    else
    some (-1)
  else
  bif r2 then some 1
  else
  bif decide (x < y) then some (-1)
  else
  bif decide (x > y) then some 1
  else
  some 0
def slices_Compare_Lint_int_l0_b (N : Nat) (rec_ : (List Int) → (List Int) → (List Int) → Int → Int → Option (Int)) (s12 : List Int) (s22 : List Int) (t9 : List Int) (t10 : Int) (t11 : Int) : Option (Int) :=
  bif decide (t11 < t10) then
    grd (inb t11 t9) <|
    bif decide (t11 ≥ (s22.length : Int)) then some 1
    else
    grd (inb t11 s22) <|
    (cmp_Compare_int N (at_ 0 t9 t11) (at_ 0 s22 t11)).bind fun r =>
    bif (r != 0) then some r
    else
    rec_ s12 s22 t9 t10 (w64 (t11 + 1))
  else
  bif decide ((s12.length : Int) < (s22.length : Int)) then some (-1)
  else
  some 0
def slices_Compare_Lint_int_l0 (N : Nat) : Nat → (List Int) → (List Int) → (List Int) → Int → Int → Option (Int)
  | 0, _, _, _, _, _ => none
  | k_ + 1, s12, s22, t9, t10, t11 => slices_Compare_Lint_int_l0_b N (slices_Compare_Lint_int_l0 N k_) s12 s22 t9 t10 t11
def slices_Compare_Lint_int_b (N : Nat) (slices_Compare_Lint_int_l0S : (List Int) → (List Int) → (List Int) → Int → Int → Option (Int)) (s1 : List Int) (s2 : List Int) : Option (Int) :=
  slices_Compare_Lint_int_l0S s1 s2 s1 (s1.length : Int) 0
def slices_Compare_Lint_int (N : Nat) (s1 : List Int) (s2 : List Int) : Option (Int) := slices_Compare_Lint_int_b N (slices_Compare_Lint_int_l0 N N) s1 s2
def impl_CompareFacts (N : Nat) (a : Int × List Int) (b : Int × List Int) : Option (Int) :=
  bif (a.1 != b.1) then
    (impl_compare N a.1 b.1).bind fun r =>
    some r
  else
  (slices_Compare_Lint_int N a.2 b.2).bind fun r2 =>
  some r2
def impl_IsValidDatabase_l0_b (N : Nat) (rec_ : (List (ByteArray × Int × Int)) → (List (Int × List Int)) → (List (Int × List Int)) → Int → Int → Option (Bool)) (db2 : List (ByteArray × Int × Int)) (db3 : List (Int × List Int)) (t16 : List (Int × List Int)) (t17 : Int) (t18 : Int) : Option (Bool) :=
  bif decide (t18 < t17) then
    grd (inb t18 t16) <|
    (impl_isFact N db2 (at_ (0, []) t16 t18)).bind fun r2 =>
    bif (!r2) then some false
    else
    bif decide (t18 > 0) then
      grd (inb (w64 (t18 - 1)) db3) <|
      (impl_CompareFacts N (at_ (0, []) db3 (w64 (t18 - 1))) (at_ (0, []) t16 t18)).bind fun r3 =>
      bif decide (r3 ≥ 0) then some false
      else
      rec_ db2 db3 t16 t17 (w64 (t18 + 1))
    else
    rec_ db2 db3 t16 t17 (w64 (t18 + 1))
  else
  some true
def impl_IsValidDatabase_l0 (N : Nat) : Nat → (List (ByteArray × Int × Int)) → (List (Int × List Int)) → (List (Int × List Int)) → Int → Int → Option (Bool)
  | 0, _, _, _, _, _ => none
  | k_ + 1, db2, db3, t16, t17, t18 => impl_IsValidDatabase_l0_b N (impl_IsValidDatabase_l0 N k_) db2 db3 t16 t17 t18
def impl_IsValidDatabase_b (N : Nat) (impl_IsValidDatabase_l0S : (List (ByteArray × Int × Int)) → (List (Int × List Int)) → (List (Int × List Int)) → Int → Int → Option (Bool)) (db : List (ByteArray × Int × Int) × List (Int × List Int)) : Option (Bool) :=
  (impl_AreValidRelations N db.1).bind fun r =>
  bif (!r) then some false
  else
  bif decide ((db.2.length : Int) > 14) then some false
  else
  impl_IsValidDatabase_l0S db.1 db.2 db.2 (db.2.length : Int) 0
def impl_IsValidDatabase (N : Nat) (db : List (ByteArray × Int × Int) × List (Int × List Int)) : Option (Bool) := impl_IsValidDatabase_b N (impl_IsValidDatabase_l0 N N) db
def impl_AreValidWeights_c1 (N : Nat) (w : Int) : Option (Bool) :=
  (impl_within N w 1 9).bind fun r =>
  some (!r)
def slices_IndexFunc_Lint_int_AreValidWeights_c1_l0_b (N : Nat) (rec_ : (List Int) → Int → Int → Option (Int)) (s2 : List Int) (t7 : Int) (t8 : Int) : Option (Int) :=
  bif decide (t8 < t7) then
    grd (inb t8 s2) <|
    (impl_AreValidWeights_c1 N (at_ 0 s2 t8)).bind fun r =>
    bif r then some t8
    else
    rec_ s2 t7 (w64 (t8 + 1))
  else
  some (-1)
def slices_IndexFunc_Lint_int_AreValidWeights_c1_l0 (N : Nat) : Nat → (List Int) → Int → Int → Option (Int)
  | 0, _, _, _ => none
  | k_ + 1, s2, t7, t8 => slices_IndexFunc_Lint_int_AreValidWeights_c1_l0_b N (slices_IndexFunc_Lint_int_AreValidWeights_c1_l0 N k_) s2 t7 t8
def slices_IndexFunc_Lint_int_AreValidWeights_c1_b (N : Nat) (slices_IndexFunc_Lint_int_AreValidWeights_c1_l0S : (List Int) → Int → Int → Option (Int)) (s : List Int) : Option (Int) :=
  slices_IndexFunc_Lint_int_AreValidWeights_c1_l0S s (s.length : Int) 0
def slices_IndexFunc_Lint_int_AreValidWeights_c1 (N : Nat) (s : List Int) : Option (Int) := slices_IndexFunc_Lint_int_AreValidWeights_c1_b N (slices_IndexFunc_Lint_int_AreValidWeights_c1_l0 N N) s
def slices_ContainsFunc_Lint_int_AreValidWeights_c1 (N : Nat) (s : List Int) : Option (Bool) :=
  (slices_IndexFunc_Lint_int_AreValidWeights_c1 N s).bind fun r =>
  some (decide (r ≥ 0))
def impl_AreValidWeights (N : Nat) (db : List (ByteArray × Int × Int) × List (Int × List Int)) (weights : List Int) : Option (Bool) :=
  (impl_IsValidDatabase N db).bind fun r =>
  bif r then
    bif ((weights.length : Int) == (db.2.length : Int)) then
      (slices_ContainsFunc_Lint_int_AreValidWeights_c1 N weights).bind fun r2 =>
      some (!r2)
    else
    some false
  else
  some false
def slices_Equal_Lint_int_l0_b (N : Nat) (rec_ : (List Int) → (List Int) → Int → Int → Option (Bool)) (s12 : List Int) (s22 : List Int) (t12 : Int) (t13 : Int) : Option (Bool) :=
  bif decide (t13 < t12) then
    grd (inb t13 s12) <|
    grd (inb t13 s22) <|
    bif ((at_ 0 s12 t13) != (at_ 0 s22 t13)) then some false
    else
    rec_ s12 s22 t12 (w64 (t13 + 1))
  else
  some true
def slices_Equal_Lint_int_l0 (N : Nat) : Nat → (List Int) → (List Int) → Int → Int → Option (Bool)
  | 0, _, _, _, _ => none
  | k_ + 1, s12, s22, t12, t13 => slices_Equal_Lint_int_l0_b N (slices_Equal_Lint_int_l0 N k_) s12 s22 t12 t13
def slices_Equal_Lint_int_b (N : Nat) (slices_Equal_Lint_int_l0S : (List Int) → (List Int) → Int → Int → Option (Bool)) (s1 : List Int) (s2 : List Int) : Option (Bool) :=
  bif ((s1.length : Int) != (s2.length : Int)) then some false
  else
  slices_Equal_Lint_int_l0S s1 s2 (s1.length : Int) 0
def slices_Equal_Lint_int (N : Nat) (s1 : List Int) (s2 : List Int) : Option (Bool) := slices_Equal_Lint_int_b N (slices_Equal_Lint_int_l0 N N) s1 s2
def impl_sameKey (N : Nat) (relations : List (ByteArray × Int × Int)) (a : Int × List Int) (b : Int × List Int) : Option (Bool) :=
  bif (a.1 != b.1) then some false
  else
  grd (inb a.1 relations) <|
  grd (subOk 0 (((at_ (⟨#[]⟩, (0, 0)) relations a.1).2).2) a.2.length) <|
  grd (subOk 0 (((at_ (⟨#[]⟩, (0, 0)) relations a.1).2).2) b.2.length) <|
  (slices_Equal_Lint_int N (a.2.take (((at_ (⟨#[]⟩, (0, 0)) relations a.1).2).2).toNat) (b.2.take (((at_ (⟨#[]⟩, (0, 0)) relations a.1).2).2).toNat)).bind fun r =>
  some r
def impl_blocks_l0_b (N : Nat) (rec_ : (List (ByteArray × Int × Int)) → (List (Int × List Int)) → (List (List Int)) → (List (Int × List Int)) → Int → Int → Option (List (List Int))) (db2 : List (ByteArray × Int × Int)) (db3 : List (Int × List Int)) (out : List (List Int)) (t9 : List (Int × List Int)) (t10 : Int) (t11 : Int) : Option (List (List Int)) :=
  bif decide (t11 < t10) then
    grd (inb t11 t9) <|
    bif decide ((w64 ((out.length : Int) - 1)) ≥ 0) then
      grd (inb (w64 ((out.length : Int) - 1)) out) <|
      grd (inb 0 (at_ [] out (w64 ((out.length : Int) - 1)))) <|
      grd (inb (at_ 0 (at_ [] out (w64 ((out.length : Int) - 1))) 0) db3) <|
      (impl_sameKey N db2 (at_ (0, []) db3 (at_ 0 (at_ [] out (w64 ((out.length : Int) - 1))) 0)) (at_ (0, []) t9 t11)).bind fun r =>
      bif r then
        grd (inb (w64 ((out.length : Int) - 1)) out) <|
        grd (inb (w64 ((out.length : Int) - 1)) out) <|
        grd (appOk (at_ [] out (w64 ((out.length : Int) - 1))) [t11] 8) <|
        grd (inb (w64 ((out.length : Int) - 1)) out) <|
        grd (growOk (w64 ((out.length : Int) - 1)) (w64 ((out.length : Int) - 1)) out) <|
        letv (out.set (w64 ((out.length : Int) - 1)).toNat ((at_ [] out (w64 ((out.length : Int) - 1))) ++ [t11])) fun u =>
        rec_ db2 db3 u t9 t10 (w64 (t11 + 1))
      else
      grd (appOk out [[t11]] 24) <|
      rec_ db2 db3 (out ++ [[t11]]) t9 t10 (w64 (t11 + 1))
    else
    grd (appOk out [[t11]] 24) <|
    rec_ db2 db3 (out ++ [[t11]]) t9 t10 (w64 (t11 + 1))
  else
  some out
def impl_blocks_l0 (N : Nat) : Nat → (List (ByteArray × Int × Int)) → (List (Int × List Int)) → (List (List Int)) → (List (Int × List Int)) → Int → Int → Option (List (List Int))
  | 0, _, _, _, _, _, _ => none
  | k_ + 1, db2, db3, out, t9, t10, t11 => impl_blocks_l0_b N (impl_blocks_l0 N k_) db2 db3 out t9 t10 t11
def impl_blocks_b (N : Nat) (impl_blocks_l0S : (List (ByteArray × Int × Int)) → (List (Int × List Int)) → (List (List Int)) → (List (Int × List Int)) → Int → Int → Option (List (List Int))) (db : List (ByteArray × Int × Int) × List (Int × List Int)) : Option (List (List Int)) :=
  impl_blocks_l0S db.1 db.2 [] db.2 (db.2.length : Int) 0
def impl_blocks (N : Nat) (db : List (ByteArray × Int × Int) × List (Int × List Int)) : Option (List (List Int)) := impl_blocks_b N (impl_blocks_l0 N N) db
def impl_MostLikelyRepair_l1_b (N : Nat) (impl_MostLikelyRepair_l0R : (List Int) → (List Int) → (List (List Int)) → Int → Int → Option (List Int × Bool)) (rec_ : (List Int) → (List Int) → Int → (List (List Int)) → Int → Int → Int → (List Int) → Int → Int → Option (List Int × Bool)) (weights3 : List Int) (out2 : List Int) (best : Int) (t182 : List (List Int)) (t192 : Int) (t202 : Int) (t27i : Int) (t27 : List Int) (t28 : Int) (t29 : Int) : Option (List Int × Bool) :=
  bif decide (t29 < t28) then
    grd (inb t29 t27) <|
    grd (inb (at_ 0 t27 t29) weights3) <|
    grd (inb best weights3) <|
    bif decide ((at_ 0 weights3 (at_ 0 t27 t29)) > (at_ 0 weights3 best)) then
      rec_ weights3 out2 (at_ 0 t27 t29) t182 t192 t202 t27i t27 t28 (w64 (t29 + 1))
    else
    rec_ weights3 out2 best t182 t192 t202 t27i t27 t28 (w64 (t29 + 1))
  else
  grd (appOk out2 [best] 8) <|
  impl_MostLikelyRepair_l0R weights3 (out2 ++ [best]) t182 t192 (w64 (t202 + 1))
def impl_MostLikelyRepair_l1 (impl_MostLikelyRepair_l0R : (List Int) → (List Int) → (List (List Int)) → Int → Int → Option (List Int × Bool)) (N : Nat) : Nat → (List Int) → (List Int) → Int → (List (List Int)) → Int → Int → Int → (List Int) → Int → Int → Option (List Int × Bool)
  | 0, _, _, _, _, _, _, _, _, _, _ => none
  | k_ + 1, weights3, out2, best, t182, t192, t202, t27i, t27, t28, t29 => impl_MostLikelyRepair_l1_b N impl_MostLikelyRepair_l0R (impl_MostLikelyRepair_l1 impl_MostLikelyRepair_l0R N k_) weights3 out2 best t182 t192 t202 t27i t27 t28 t29
def impl_MostLikelyRepair_l0_b (N : Nat) (impl_MostLikelyRepair_l1S : (List Int) → (List Int) → Int → (List (List Int)) → Int → Int → Int → (List Int) → Int → Int → Option (List Int × Bool)) (rec_ : (List Int) → (List Int) → (List (List Int)) → Int → Int → Option (List Int × Bool)) (weights2 : List Int) (out : List Int) (t18 : List (List Int)) (t19 : Int) (t20 : Int) : Option (List Int × Bool) :=
  bif decide (t20 < t19) then
    grd (inb t20 t18) <|
    grd (inb 0 (at_ [] t18 t20)) <|
    impl_MostLikelyRepair_l1S weights2 out (at_ 0 (at_ [] t18 t20) 0) t18 t19 t20 t20 (at_ [] t18 t20) ((at_ [] t18 t20).length : Int) 0
  else
  some (out, true)
def impl_MostLikelyRepair_l0 (N : Nat) : Nat → (List Int) → (List Int) → (List (List Int)) → Int → Int → Option (List Int × Bool)
  | 0, _, _, _, _, _ => none
  | k_ + 1, weights2, out, t18, t19, t20 => impl_MostLikelyRepair_l0_b N (impl_MostLikelyRepair_l1 (impl_MostLikelyRepair_l0 N k_) N N) (impl_MostLikelyRepair_l0 N k_) weights2 out t18 t19 t20
def impl_MostLikelyRepair_b (N : Nat) (impl_MostLikelyRepair_l0S : (List Int) → (List Int) → (List (List Int)) → Int → Int → Option (List Int × Bool)) (db : List (ByteArray × Int × Int) × List (Int × List Int)) (weights : List Int) : Option (List Int × Bool) :=
  (impl_AreValidWeights N db weights).bind fun r =>
  bif (!r) then some ([], false)
  else
  (impl_blocks N db).bind fun r2 =>
  impl_MostLikelyRepair_l0S weights [] r2 (r2.length : Int) 0
def impl_MostLikelyRepair (N : Nat) (db : List (ByteArray × Int × Int) × List (Int × List Int)) (weights : List Int) : Option (List Int × Bool) := impl_MostLikelyRepair_b N (impl_MostLikelyRepair_l0 N N) db weights
def laws_eqIntS_l0_b (N : Nat) (rec_ : (List Int) → (List Int) → Int → Option (Bool)) (a2 : List Int) (b2 : List Int) (i : Int) : Option (Bool) :=
  bif decide (i < (a2.length : Int)) then
    grd (inb i a2) <|
    grd (inb i b2) <|
    bif ((at_ 0 a2 i) != (at_ 0 b2 i)) then some false
    else
    rec_ a2 b2 (w64 (i + 1))
  else
  some true
def laws_eqIntS_l0 (N : Nat) : Nat → (List Int) → (List Int) → Int → Option (Bool)
  | 0, _, _, _ => none
  | k_ + 1, a2, b2, i => laws_eqIntS_l0_b N (laws_eqIntS_l0 N k_) a2 b2 i
def laws_eqIntS_b (N : Nat) (laws_eqIntS_l0S : (List Int) → (List Int) → Int → Option (Bool)) (a : List Int) (b : List Int) : Option (Bool) :=
  bif ((a.length : Int) != (b.length : Int)) then some false
  else
  laws_eqIntS_l0S a b 0
def laws_eqIntS (N : Nat) (a : List Int) (b : List Int) : Option (Bool) := laws_eqIntS_b N (laws_eqIntS_l0 N N) a b
def laws_eqRelation (N : Nat) (a : ByteArray × Int × Int) (b : ByteArray × Int × Int) : Option (Bool) :=
  bif (!seq a.1 b.1) then some false
  else
  bif (a.2.1 != b.2.1) then some false
  else
  bif (a.2.2 != b.2.2) then some false
  else
  some true
def laws_eqRelationS_l0_b (N : Nat) (rec_ : (List (ByteArray × Int × Int)) → (List (ByteArray × Int × Int)) → Int → Option (Bool)) (a2 : List (ByteArray × Int × Int)) (b2 : List (ByteArray × Int × Int)) (i : Int) : Option (Bool) :=
  bif decide (i < (a2.length : Int)) then
    grd (inb i a2) <|
    grd (inb i b2) <|
    (laws_eqRelation N ((at_ (⟨#[]⟩, (0, 0)) a2 i).1, ((at_ (⟨#[]⟩, (0, 0)) a2 i).2)) ((at_ (⟨#[]⟩, (0, 0)) b2 i).1, ((at_ (⟨#[]⟩, (0, 0)) b2 i).2))).bind fun r =>
    bif (!r) then some false
    else
    rec_ a2 b2 (w64 (i + 1))
  else
  some true
def laws_eqRelationS_l0 (N : Nat) : Nat → (List (ByteArray × Int × Int)) → (List (ByteArray × Int × Int)) → Int → Option (Bool)
  | 0, _, _, _ => none
  | k_ + 1, a2, b2, i => laws_eqRelationS_l0_b N (laws_eqRelationS_l0 N k_) a2 b2 i
def laws_eqRelationS_b (N : Nat) (laws_eqRelationS_l0S : (List (ByteArray × Int × Int)) → (List (ByteArray × Int × Int)) → Int → Option (Bool)) (a : List (ByteArray × Int × Int)) (b : List (ByteArray × Int × Int)) : Option (Bool) :=
  bif ((a.length : Int) != (b.length : Int)) then some false
  else
  laws_eqRelationS_l0S a b 0
def laws_eqRelationS (N : Nat) (a : List (ByteArray × Int × Int)) (b : List (ByteArray × Int × Int)) : Option (Bool) := laws_eqRelationS_b N (laws_eqRelationS_l0 N N) a b
def laws_eqFact (N : Nat) (a : Int × List Int) (b : Int × List Int) : Option (Bool) :=
  bif (a.1 != b.1) then some false
  else
  (laws_eqIntS N a.2 b.2).bind fun r =>
  bif (!r) then some false
  else
  some true
def laws_eqFactS_l0_b (N : Nat) (rec_ : (List (Int × List Int)) → (List (Int × List Int)) → Int → Option (Bool)) (a2 : List (Int × List Int)) (b2 : List (Int × List Int)) (i : Int) : Option (Bool) :=
  bif decide (i < (a2.length : Int)) then
    grd (inb i a2) <|
    grd (inb i b2) <|
    (laws_eqFact N (at_ (0, []) a2 i) (at_ (0, []) b2 i)).bind fun r =>
    bif (!r) then some false
    else
    rec_ a2 b2 (w64 (i + 1))
  else
  some true
def laws_eqFactS_l0 (N : Nat) : Nat → (List (Int × List Int)) → (List (Int × List Int)) → Int → Option (Bool)
  | 0, _, _, _ => none
  | k_ + 1, a2, b2, i => laws_eqFactS_l0_b N (laws_eqFactS_l0 N k_) a2 b2 i
def laws_eqFactS_b (N : Nat) (laws_eqFactS_l0S : (List (Int × List Int)) → (List (Int × List Int)) → Int → Option (Bool)) (a : List (Int × List Int)) (b : List (Int × List Int)) : Option (Bool) :=
  bif ((a.length : Int) != (b.length : Int)) then some false
  else
  laws_eqFactS_l0S a b 0
def laws_eqFactS (N : Nat) (a : List (Int × List Int)) (b : List (Int × List Int)) : Option (Bool) := laws_eqFactS_b N (laws_eqFactS_l0 N N) a b
def laws_eqDatabase (N : Nat) (a : List (ByteArray × Int × Int) × List (Int × List Int)) (b : List (ByteArray × Int × Int) × List (Int × List Int)) : Option (Bool) :=
  (laws_eqRelationS N a.1 b.1).bind fun r =>
  bif (!r) then some false
  else
  (laws_eqFactS N a.2 b.2).bind fun r2 =>
  bif (!r2) then some false
  else
  some true
def laws_markText_l0_b (N : Nat) (rec_ : Int → ByteArray → Option (ByteArray)) (k2 : Int) (out : ByteArray) : Option (ByteArray) :=
  bif decide (k2 > 0) then
    grz 10 <|
    grd (catOk (ofBytes [(w .u8 (w64 (48 + (k2.tmod 10))))]) out) <|
    grz 10 <|
    rec_ (w64 (k2.tdiv 10)) ((ofBytes [(w .u8 (w64 (48 + (k2.tmod 10))))]) ++ out)
  else
  grd (catOk (⟨#[109]⟩) out) <|
  some ((⟨#[109]⟩) ++ out)
def laws_markText_l0 (N : Nat) : Nat → Int → ByteArray → Option (ByteArray)
  | 0, _, _ => none
  | k_ + 1, k2, out => laws_markText_l0_b N (laws_markText_l0 N k_) k2 out
def laws_markText_b (N : Nat) (laws_markText_l0S : Int → ByteArray → Option (ByteArray)) (k : Int) : Option (ByteArray) :=
  bif decide (k ≤ 0) then some (⟨#[109, 48]⟩)
  else
  laws_markText_l0S k (⟨#[]⟩)
def laws_markText (N : Nat) (k : Int) : Option (ByteArray) := laws_markText_b N (laws_markText_l0 N N) k
def laws_markRelationS_l0_b (N : Nat) (rec_ : (List (ByteArray × Int × Int)) → Int → Int → Option ((List (ByteArray × Int × Int)) × Int)) (a2 : List (ByteArray × Int × Int)) (k2 : Int) (i : Int) : Option ((List (ByteArray × Int × Int)) × Int) :=
  bif decide (i < (a2.length : Int)) then
    (laws_markText N k2).bind fun r =>
    grd (inb i a2) <|
    grd (inb i a2) <|
    letv (a2.set i.toNat (r, ((at_ (⟨#[]⟩, (0, 0)) a2 i).2))) fun u =>
    grd (inb i u) <|
    grd (inb i u) <|
    letv (u.set i.toNat ((at_ (⟨#[]⟩, (0, 0)) u i).1, (w64 (k2 + 1)), ((at_ (⟨#[]⟩, (0, 0)) u i).2).2)) fun u2 =>
    grd (inb i u2) <|
    grd (inb i u2) <|
    letv (u2.set i.toNat ((at_ (⟨#[]⟩, (0, 0)) u2 i).1, ((at_ (⟨#[]⟩, (0, 0)) u2 i).2).1, (w64 ((w64 (k2 + 1)) + 1)))) fun u3 =>
    rec_ u3 (w64 ((w64 ((w64 (k2 + 1)) + 1)) + 1)) (w64 (i + 1))
  else
  some (a2, k2)
def laws_markRelationS_l0 (N : Nat) : Nat → (List (ByteArray × Int × Int)) → Int → Int → Option ((List (ByteArray × Int × Int)) × Int)
  | 0, _, _, _ => none
  | k_ + 1, a2, k2, i => laws_markRelationS_l0_b N (laws_markRelationS_l0 N k_) a2 k2 i
def laws_markRelationS_b (N : Nat) (laws_markRelationS_l0S : (List (ByteArray × Int × Int)) → Int → Int → Option ((List (ByteArray × Int × Int)) × Int)) (a : List (ByteArray × Int × Int)) (k : Int) : Option ((List (ByteArray × Int × Int)) × Int) :=
  laws_markRelationS_l0S a k 0
def laws_markRelationS (N : Nat) (a : List (ByteArray × Int × Int)) (k : Int) : Option ((List (ByteArray × Int × Int)) × Int) := laws_markRelationS_b N (laws_markRelationS_l0 N N) a k
def laws_markIntS_l0_b (N : Nat) (rec_ : (List Int) → Int → Int → Option (List Int × Int)) (a2 : List Int) (k2 : Int) (i : Int) : Option (List Int × Int) :=
  bif decide (i < (a2.length : Int)) then
    grd (inb i a2) <|
    grd (inb i a2) <|
    letv (a2.set i.toNat k2) fun u =>
    rec_ u (w64 (k2 + 1)) (w64 (i + 1))
  else
  some (a2, k2)
def laws_markIntS_l0 (N : Nat) : Nat → (List Int) → Int → Int → Option (List Int × Int)
  | 0, _, _, _ => none
  | k_ + 1, a2, k2, i => laws_markIntS_l0_b N (laws_markIntS_l0 N k_) a2 k2 i
def laws_markIntS_b (N : Nat) (laws_markIntS_l0S : (List Int) → Int → Int → Option (List Int × Int)) (a : List Int) (k : Int) : Option (List Int × Int) :=
  laws_markIntS_l0S a k 0
def laws_markIntS (N : Nat) (a : List Int) (k : Int) : Option (List Int × Int) := laws_markIntS_b N (laws_markIntS_l0 N N) a k
def laws_markFactS_l0_b (N : Nat) (rec_ : (List (Int × List Int)) → Int → Int → Option ((List (Int × List Int)) × Int)) (a2 : List (Int × List Int)) (k2 : Int) (i : Int) : Option ((List (Int × List Int)) × Int) :=
  bif decide (i < (a2.length : Int)) then
    grd (inb i a2) <|
    grd (inb i a2) <|
    letv (a2.set i.toNat (k2, (at_ (0, []) a2 i).2)) fun u =>
    grd (inb i u) <|
    (laws_markIntS N ((at_ (0, []) u i).2) (w64 (k2 + 1))).bind fun p_m =>
    letv (u.set i.toNat ((at_ (0, []) u i).1, p_m.1)) fun u2 =>
    rec_ u2 p_m.2 (w64 (i + 1))
  else
  some (a2, k2)
def laws_markFactS_l0 (N : Nat) : Nat → (List (Int × List Int)) → Int → Int → Option ((List (Int × List Int)) × Int)
  | 0, _, _, _ => none
  | k_ + 1, a2, k2, i => laws_markFactS_l0_b N (laws_markFactS_l0 N k_) a2 k2 i
def laws_markFactS_b (N : Nat) (laws_markFactS_l0S : (List (Int × List Int)) → Int → Int → Option ((List (Int × List Int)) × Int)) (a : List (Int × List Int)) (k : Int) : Option ((List (Int × List Int)) × Int) :=
  laws_markFactS_l0S a k 0
def laws_markFactS (N : Nat) (a : List (Int × List Int)) (k : Int) : Option ((List (Int × List Int)) × Int) := laws_markFactS_b N (laws_markFactS_l0 N N) a k
def laws_markDatabase (N : Nat) (a : List (ByteArray × Int × Int) × List (Int × List Int)) (k : Int) : Option ((List (ByteArray × Int × Int) × List (Int × List Int)) × Int) :=
  (laws_markRelationS N a.1 k).bind fun p_m =>
  (laws_markFactS N a.2 p_m.2).bind fun p_m2 =>
  some ((p_m.1, p_m2.1), p_m2.2)
def laws_heldIntS_l0_b (N : Nat) (rec_ : (List Int) → Int → Int → Option (Int)) (a2 : List Int) (k2 : Int) (i : Int) : Option (Int) :=
  bif decide (i < (a2.length : Int)) then
    grd (inb i a2) <|
    bif ((at_ 0 a2 i) != k2) then some (-1)
    else
    rec_ a2 (w64 (k2 + 1)) (w64 (i + 1))
  else
  some k2
def laws_heldIntS_l0 (N : Nat) : Nat → (List Int) → Int → Int → Option (Int)
  | 0, _, _, _ => none
  | k_ + 1, a2, k2, i => laws_heldIntS_l0_b N (laws_heldIntS_l0 N k_) a2 k2 i
def laws_heldIntS_b (N : Nat) (laws_heldIntS_l0S : (List Int) → Int → Int → Option (Int)) (a : List Int) (k : Int) : Option (Int) :=
  laws_heldIntS_l0S a k 0
def laws_heldIntS (N : Nat) (a : List Int) (k : Int) : Option (Int) := laws_heldIntS_b N (laws_heldIntS_l0 N N) a k
def laws_FnExactMostLikelyRepair (N : Nat) (aDb : List (ByteArray × Int × Int) × List (Int × List Int)) (aWeights : List Int) : Option (Bool) :=
  bif decide ((aWeights.length : Int) > 1048576) then some true
  else
  (laws_szDatabase N aDb 1048576).bind fun r =>
  bif decide (r < 0) then some true
  else
  (laws_toDatabase N aDb).bind fun r2 =>
  (laws_toIntS N aWeights).bind fun r3 =>
  (spec_MostLikelyRepair N r2 r3).bind fun p_r4 =>
  (laws_toDatabase N aDb).bind fun r6 =>
  (laws_toIntS N aWeights).bind fun r7 =>
  (impl_MostLikelyRepair N r6 r7).bind fun p_r8 =>
  (laws_eqIntS N p_r8.1 p_r4.1).bind fun r10 =>
  bif (!r10) then some false
  else
  bif (!(p_r8.2 == p_r4.2)) then some false
  else
  (laws_toDatabase N aDb).bind fun r11 =>
  (laws_eqDatabase N r6 r11).bind fun r12 =>
  bif (!r12) then some false
  else
  (laws_toIntS N aWeights).bind fun r13 =>
  (laws_eqIntS N r7 r13).bind fun r14 =>
  bif (!r14) then some false
  else
  (laws_markDatabase N r6 1).bind fun p_m =>
  (laws_markIntS N r7 p_m.2).bind fun p_m2 =>
  bif decide (p_m2.2 < 0) then some false
  else
  (laws_eqIntS N p_r8.1 p_r4.1).bind fun r17 =>
  bif (!r17) then some false
  else
  bif (!(p_r8.2 == p_r4.2)) then some false
  else
  (laws_markIntS N p_r8.1 1).bind fun p_m3 =>
  (laws_heldIntS N p_m3.1 1).bind fun r19 =>
  bif decide (r19 < 0) then some false
  else
  bif (r19 != p_m3.2) then some false
  else
  (laws_toDatabase N aDb).bind fun r20 =>
  (laws_toIntS N aWeights).bind fun r21 =>
  (impl_MostLikelyRepair N r20 r21).bind fun p_r22 =>
  (laws_eqIntS N p_r22.1 p_r4.1).bind fun r24 =>
  bif (!r24) then some false
  else
  bif (!(p_r22.2 == p_r4.2)) then some false
  else
  (laws_heldIntS N p_m3.1 1).bind fun r25 =>
  bif decide (r25 < 0) then some false
  else
  bif (r25 != p_m3.2) then some false
  else
  some true
end Go.PL

/- The plain law, with all that it needs. Conditions: those that stand in each theorem. -/
namespace Go.PL
set_option linter.unusedVariables false
theorem w64_id {x : Int} (h1 : -9223372036854775808 ≤ x) (h2 : x ≤ 9223372036854775807) : w64 x = x := by
  unfold w64 IntKind.wrap
  simp [IntKind.bits, IntKind.signed]
  omega
theorem w64_succ {j : Nat} (h : j < 4611686018427387904) : w64 ((j : Int) + 1) = ((j + 1 : Nat) : Int) := by
  rw [w64_id (by omega) (by omega)]; omega
@[simp] theorem grd_true {α : Type} (x : Option α) : grd true x = x := rfl
@[simp] theorem grd_false {α : Type} (x : Option α) : grd false x = none := rfl
theorem grz_ne {α : Type} {b : Int} (h : b ≠ 0) (x : Option α) : grz b x = x := by simp [grz, h]
@[simp] theorem letv_eq {α β : Type} (v : α) (k : α → β) : letv v k = k v := rfl
theorem inb_nat {α : Type} (j : Nat) (xs : List α) : inb (j : Int) xs = decide (j < xs.length) := by
  simp [inb]
theorem inb_lt {α : Type} {j : Nat} {xs : List α} (h : j < xs.length) : inb (j : Int) xs = true := by simp [inb_nat, h]
theorem at_lt {α : Type} {d : α} {j : Nat} {xs : List α} (h : j < xs.length) : at_ d xs (j : Int) = xs[j] := by simp [at_, h]
theorem makeOk_lt {n : Nat} {b : Nat} (h : n * b ≤ 140737488355328) : makeOk (n : Int) b = true := by
  have h1 : (n : Int) * (b : Int) ≤ 140737488355328 := by rw [← Int.natCast_mul]; omega
  have h2 : (0 : Int) ≤ n := by omega
  simp only [makeOk, h1, h2, decide_true, Bool.and_self]

theorem bytes_loop (bs : ByteArray) : ∀ (m i : Nat) (r : List UInt8), bs.size - i = m → ByteArray.toList.loop bs i r = r.reverse ++ bs.data.toList.drop i
  | 0, i, r, h => by
    have hs : bs.data.toList.length = bs.size := rfl
    unfold ByteArray.toList.loop
    rw [if_neg (by omega), List.drop_of_length_le (by omega)]; simp
  | m + 1, i, r, h => by
    have hs : bs.data.toList.length = bs.size := rfl
    unfold ByteArray.toList.loop
    rw [if_pos (by omega), bytes_loop bs m (i + 1) _ (by omega)]
    have hi : i < bs.data.toList.length := by omega
    rw [List.drop_eq_getElem_cons hi]
    have hi2 : i < bs.data.size := by simpa using hi
    have : bs.get! i = bs.data.toList[i] := by
      show bs.data[i]! = _
      rw [getElem!_pos bs.data i hi2]; simp
    rw [this]; simp
theorem bytes_toList (bs : ByteArray) : bs.toList = bs.data.toList := by
  unfold ByteArray.toList; rw [bytes_loop bs _ 0 [] rfl]; simp
theorem seq_eq (a b : ByteArray) : seq a b = decide (a = b) := by
  unfold seq
  rw [bytes_toList, bytes_toList]
  by_cases h : a = b
  · subst h; simp
  · have : ¬ a.data = b.data := fun h2 => h (ByteArray.ext h2)
    simp [h, this]

theorem bneI (a b : Int) : (a != b) = !decide (a = b) := by by_cases h : a = b <;> simp [h]
theorem beqI (a b : Int) : (a == b) = decide (a = b) := by by_cases h : a = b <;> simp [h]
theorem ite_dec {p : Prop} [Decidable p] {α : Type} (x y : Option α) : (bif !decide p then x else y) = if decide p then y else x := by by_cases h : p <;> simp [h]

/-- A loop: what holds at each round's start, and what goes down; what comes out. -/
theorem loop {σ R : Type} (f : Nat → σ → Option R) (I : σ → Prop) (μ : σ → Nat) (Q : Option R → Prop) (hstep : ∀ k s, I s → Q (f (k + 1) s) ∨ ∃ s', I s' ∧ μ s' < μ s ∧ f (k + 1) s = f k s') : ∀ (k : Nat) (s : σ), μ s < k → I s → Q (f k s)
  | 0, s, hk, hs => by omega
  | k + 1, s, hk, hs => by
    rcases hstep k s hs with h | ⟨s', h1, h2, h3⟩
    · exact h
    · rw [h3]
      exact loop f I μ Q hstep k s' (by omega) h1

theorem take_succ_set {α : Type} {out a : List α} {j : Nat} {y : α} (h1 : j < a.length) (h2 : j < out.length) (ht : out.take j = a.take j) (hy : y = a[j]) : (out.set j y).take (j + 1) = a.take (j + 1) := by
  subst hy
  rw [List.take_set, List.take_succ_eq_append_getElem h2, List.take_succ_eq_append_getElem h1, ht]
  simp [List.set_append_right, List.length_take, Nat.min_eq_left (Nat.le_of_lt h1)]

/-- A loop that fills a row. -/
theorem fill {β : Type} {b : List β} (f : Nat → List β → Int → Option (List β)) (hend : ∀ k out, f (k + 1) out (b.length : Int) = some out)
    (hstep : ∀ k out j (h : j < b.length), out.length = b.length → f (k + 1) out (j : Int) = f k (out.set j b[j]) ((j + 1 : Nat) : Int)) {k : Nat} (hk : b.length < k) {out : List β} (ho : out.length = b.length) : f k out 0 = some b := by
  have := loop (fun k (s : List β × Nat) => f k s.1 (s.2 : Int)) (fun s => s.1.length = b.length ∧ s.2 ≤ b.length ∧ s.1.take s.2 = b.take s.2) (fun s => b.length - s.2) (fun o => o = some b) (fun k s hs => by
    obtain ⟨out, j⟩ := s
    obtain ⟨h1, h2, h3⟩ := hs
    simp only at h1 h2 h3 ⊢
    by_cases hj : j < b.length
    · right
      exact ⟨(out.set j b[j], j + 1), ⟨by simp [h1], hj, take_succ_set hj (by omega) h3 rfl⟩, by simp only; omega, hstep k out j hj h1⟩
    · left
      have : j = b.length := by omega
      subst this
      rw [hend, ← List.take_of_length_le (Nat.le_of_eq h1), h3, List.take_length]) k (out, 0) (by simpa using hk) ⟨ho, by simp, by simp⟩
  exact this
/-- A loop that asks something of each index. -/
theorem every {n : Nat} (p : Nat → Bool) (f : Nat → Int → Option Bool) (hend : ∀ k, f (k + 1) (n : Int) = some true) (hstep : ∀ k j, j < n → f (k + 1) (j : Int) = if p j then f k ((j + 1 : Nat) : Int) else some false) {k : Nat} (hk : n < k) : f k 0 = some (decide (∀ j, j < n → p j = true)) := by
  have := loop (fun k (j : Nat) => f k (j : Int)) (fun j => j ≤ n ∧ ∀ i, i < j → p i = true) (fun j => n - j) (fun o => o = some (decide (∀ j, j < n → p j = true))) (fun k j hs => by
    obtain ⟨h1, h2⟩ := hs
    by_cases hj : j < n
    · rw [hstep k j hj]
      cases hp : p j with
      | true =>
        right
        exact ⟨j + 1, ⟨hj, fun i hi => by rcases Nat.lt_or_eq_of_le (Nat.le_of_lt_succ hi) with h | h; exact h2 i h; rw [h]; exact hp⟩, by omega, by simp⟩
      | false =>
        left
        have : ¬ ∀ j, j < n → p j = true := fun h => by have := h j hj; rw [hp] at this; simp at this
        simp [this]
    · left
      have : j = n := by omega
      subst this
      rw [hend]
      simp only [Option.some.injEq]
      symm
      simpa using h2) k 0 (by simpa using hk) ⟨by omega, by omega⟩
  exact this
/-- A loop that asks something of each index, and says e behind it. -/
theorem everyE {R : Type} {n : Nat} (p : Nat → Bool) (no e : Option R) (f : Nat → Int → Option R) (hend : ∀ k, f (k + 1) (n : Int) = e) (hstep : ∀ k j, j < n → f (k + 1) (j : Int) = if p j then f k ((j + 1 : Nat) : Int) else no) {k : Nat} (hk : n < k) : f k 0 = if ∀ j, j < n → p j = true then e else no := by
  have := loop (fun k (j : Nat) => f k (j : Int)) (fun j => j ≤ n ∧ ∀ i, i < j → p i = true) (fun j => n - j) (fun o => o = if ∀ j, j < n → p j = true then e else no) (fun k j hs => by
    obtain ⟨h1, h2⟩ := hs
    by_cases hj : j < n
    · rw [hstep k j hj]
      cases hp : p j with
      | true =>
        right
        exact ⟨j + 1, ⟨hj, fun i hi => by rcases Nat.lt_or_eq_of_le (Nat.le_of_lt_succ hi) with h | h; exact h2 i h; rw [h]; exact hp⟩, by omega, by simp⟩
      | false =>
        left
        have : ¬ ∀ j, j < n → p j = true := fun h => by have := h j hj; rw [hp] at this; simp at this
        simp [this]
    · left
      have : j = n := by omega
      subst this
      rw [hend, if_pos h2]) k 0 (by simpa using hk) ⟨by omega, by omega⟩
  exact this
/-- A loop that looks for the first index of which something holds. -/
theorem first {n : Nat} (p : Nat → Bool) (f : Nat → Int → Option Int) (hend : ∀ k, f (k + 1) (n : Int) = some (-1)) (hstep : ∀ k j, j < n → f (k + 1) (j : Int) = if p j then some (j : Int) else f k ((j + 1 : Nat) : Int)) {k : Nat} (hk : n < k) :
    (∃ j, j < n ∧ p j = true ∧ (∀ i, i < j → p i = false) ∧ f k 0 = some (j : Int)) ∨ ((∀ i, i < n → p i = false) ∧ f k 0 = some (-1)) := by
  have := loop (fun k (j : Nat) => f k (j : Int)) (fun j => j ≤ n ∧ ∀ i, i < j → p i = false) (fun j => n - j) (fun o => (∃ j, j < n ∧ p j = true ∧ (∀ i, i < j → p i = false) ∧ o = some (j : Int)) ∨ ((∀ i, i < n → p i = false) ∧ o = some (-1))) (fun k j hs => by
    obtain ⟨h1, h2⟩ := hs
    by_cases hj : j < n
    · rw [hstep k j hj]
      cases hp : p j with
      | true => left; left; exact ⟨j, hj, hp, h2, rfl⟩
      | false =>
        right
        exact ⟨j + 1, ⟨hj, fun i hi => by rcases Nat.lt_or_eq_of_le (Nat.le_of_lt_succ hi) with h | h; exact h2 i h; rw [h]; exact hp⟩, by omega, by simp⟩
    · left; right
      have : j = n := by omega
      subst this
      exact ⟨h2, hend k⟩) k 0 (by simpa using hk) ⟨by omega, by omega⟩
  exact this
theorem w64_pred {j : Nat} (h : 0 < j) (h2 : j < 4611686018427387904) : w64 ((j : Int) - 1) = ((j - 1 : Nat) : Int) := by
  rw [w64_id (by omega) (by omega)]; omega
theorem inb_int {α : Type} {i : Int} {xs : List α} (h0 : 0 ≤ i) (h : i < xs.length) : inb i xs = true := by simp [inb, h0, h]
theorem at_int {α : Type} {d : α} {i : Int} {xs : List α} (h0 : 0 ≤ i) (h : i < xs.length) : at_ d xs i = xs[i.toNat]'(by omega) := by
  unfold at_
  rw [List.getD_eq_getElem?_getD, List.getElem?_eq_getElem (by omega)]
  rfl
end Go.PL
namespace Go.PL
set_option linter.unusedVariables false
abbrev Rel := ByteArray × Int × Int
abbrev Fact := Int × List Int
abbrev Db := List Rel × List Fact

/-- Small enough for every copy. -/
structure SmallDb (d : Db) : Prop where
  rels : d.1.length ≤ 1048576
  facts : d.2.length ≤ 1048576
  vals : ∀ f ∈ d.2, f.2.length ≤ 1048576
theorem list_eq_iff {α : Type} [DecidableEq α] {a b : List α} (h : a.length = b.length) : (a = b) ↔ ∀ j, j < a.length → (decide (a[j]? = b[j]?)) = true := by
  constructor
  · rintro rfl j _; simp
  · intro h2
    apply List.ext_getElem? 
    intro j
    by_cases hj : j < a.length
    · simpa using h2 j hj
    · rw [List.getElem?_eq_none (by omega), List.getElem?_eq_none (by omega)]
end Go.PL
namespace Go.PL
set_option linter.unusedVariables false
theorem l1In (N : Nat) (x a b : Int) : spec_l1In N x a b = some (decide (a ≤ x ∧ x ≤ b)) := by
  unfold spec_l1In
  by_cases h : a ≤ x <;> simp [h]
theorem within (N : Nat) (x a b : Int) : impl_within N x a b = some (decide (a ≤ x ∧ x ≤ b)) := by
  unfold impl_within
  by_cases h : a ≤ x <;> simp [h]

def validRel (r : Rel) : Bool := (spec_IsValidRelation 0 r).getD false
theorem specRel (N : Nat) (r : Rel) : spec_IsValidRelation N r = some (validRel r) := by
  have key : ∃ b, spec_IsValidRelation 0 r = some b := by
    unfold spec_IsValidRelation
    by_cases h : r.1.size = 1
    · have hb : ∃ b, byteAt r.1 0 = some b := by
        unfold byteAt
        have : (0 : Int).toNat < r.1.size := by omega
        exact ⟨r.1[(0 : Int).toNat], by rw [if_pos (by omega), getElem?_pos]⟩
      obtain ⟨b, hb⟩ := hb
      rw [hb]
      simp only [Option.bind_some, l1In]
      cases ((r.1.size : Int) == 1) with
      | false => exact ⟨_, rfl⟩
      | true =>
        cases decide ((b.toNat : Int) ≥ 97) with
        | false => exact ⟨_, rfl⟩
        | true =>
          cases decide ((b.toNat : Int) ≤ 122) with
          | false => exact ⟨_, rfl⟩
          | true =>
            cases decide (1 ≤ r.2.1 ∧ r.2.1 ≤ 3) with
            | false => exact ⟨_, rfl⟩
            | true => exact ⟨_, rfl⟩
    · have h0 : ((r.1.size : Int) == 1) = false := by rw [beqI]; simp; omega
      rw [h0]; exact ⟨false, rfl⟩
  obtain ⟨b, hb⟩ := key
  have e : spec_IsValidRelation N r = spec_IsValidRelation 0 r := by
    unfold spec_IsValidRelation; simp only [l1In]
  rw [e, validRel, hb]; rfl
theorem implRel (N : Nat) (r : Rel) : impl_IsValidRelation N r = some (validRel r) := by
  rw [← specRel N r]
  unfold impl_IsValidRelation spec_IsValidRelation
  simp only [l1In, within]

def validRels (l : List Rel) : Bool := decide ((∀ j, j < l.length → (validRel (l.getD j (⟨#[]⟩, 0, 0)) && (decide (j = 0) || slt (l.getD (j - 1) (⟨#[]⟩, 0, 0)).1 (l.getD j (⟨#[]⟩, 0, 0)).1)) = true) ∧ l.length ≤ 4)
theorem getD_lt {α : Type} {d : α} {j : Nat} {xs : List α} (h : j < xs.length) : xs.getD j d = xs[j] := by simp [h]
theorem specRels {N : Nat} {l : List Rel} (hl : l.length ≤ 1048576) (hN : 1048576 < N) : spec_AreValidRelations N l = some (validRels l) := by
  unfold spec_AreValidRelations spec_AreValidRelations_b
  rw [everyE (n := l.length) (fun j => validRel (l.getD j (⟨#[]⟩, 0, 0)) && (decide (j = 0) || slt (l.getD (j - 1) (⟨#[]⟩, 0, 0)).1 (l.getD j (⟨#[]⟩, 0, 0)).1)) (some false) (some (decide (l.length ≤ 4))) (fun k i => spec_AreValidRelations_l0 N k l i)
    (fun k => by simp [spec_AreValidRelations_l0, spec_AreValidRelations_l0_b]; omega) (fun k j hj => ?_) (by omega)]
  · unfold validRels
    by_cases h : ∀ j, j < l.length → (validRel (l.getD j (⟨#[]⟩, 0, 0)) && (decide (j = 0) || slt (l.getD (j - 1) (⟨#[]⟩, 0, 0)).1 (l.getD j (⟨#[]⟩, 0, 0)).1)) = true
    · rw [if_pos h]; congr 1; exact decide_eq_decide.2 ⟨fun h2 => ⟨h, h2⟩, fun h2 => h2.2⟩
    · rw [if_neg h]; congr 1; symm; exact decide_eq_false fun h2 => h h2.1
  · have h1 : (j : Int) < (l.length : Int) := by omega
    simp only [spec_AreValidRelations_l0, spec_AreValidRelations_l0_b, h1, decide_true, cond_true, inb_lt hj, grd_true, at_lt hj, specRel, Option.bind_some, getD_lt hj, w64_succ (show j < 4611686018427387904 by omega)]
    cases validRel l[j] with
    | false => rfl
    | true =>
      simp only [Bool.not_true, cond_false, Bool.true_and]
      by_cases h0 : j = 0
      · subst h0; simp
      · have h3 : (j : Int) > 0 := by omega
        have h4 : j - 1 < l.length := by omega
        simp only [h3, decide_true, cond_true, w64_pred (show 0 < j by omega) (by omega), inb_lt h4, grd_true, at_lt h4, h0, decide_false, Bool.false_or, getD_lt h4]
        cases slt l[j - 1].1 l[j].1 <;> rfl
theorem implRels {N : Nat} {l : List Rel} (hl : l.length ≤ 1048576) (hN : 1048576 < N) : impl_AreValidRelations N l = some (validRels l) := by
  rw [← specRels hl hN]
  unfold impl_AreValidRelations impl_AreValidRelations_b spec_AreValidRelations spec_AreValidRelations_b
  rw [everyE (n := l.length) (fun j => validRel (l.getD j (⟨#[]⟩, 0, 0)) && (decide (j = 0) || slt (l.getD (j - 1) (⟨#[]⟩, 0, 0)).1 (l.getD j (⟨#[]⟩, 0, 0)).1)) (some false) (some (decide (l.length ≤ 4))) (fun k i => spec_AreValidRelations_l0 N k l i)
    (fun k => by simp [spec_AreValidRelations_l0, spec_AreValidRelations_l0_b]; omega) (fun k j hj => ?_) (by omega),
    everyE (n := l.length) (fun j => validRel (l.getD j (⟨#[]⟩, 0, 0)) && (decide (j = 0) || slt (l.getD (j - 1) (⟨#[]⟩, 0, 0)).1 (l.getD j (⟨#[]⟩, 0, 0)).1)) (some false) (some (decide (l.length ≤ 4))) (fun k i => impl_AreValidRelations_l0 N k l l (l.length : Int) i)
    (fun k => by simp [impl_AreValidRelations_l0, impl_AreValidRelations_l0_b]; omega) (fun k j hj => ?_) (by omega)]
  · have h1 : (j : Int) < (l.length : Int) := by omega
    simp only [impl_AreValidRelations_l0, impl_AreValidRelations_l0_b, h1, decide_true, cond_true, inb_lt hj, grd_true, at_lt hj, implRel, Option.bind_some, getD_lt hj, w64_succ (show j < 4611686018427387904 by omega)]
    cases validRel l[j] with
    | false => rfl
    | true =>
      simp only [Bool.not_true, cond_false, Bool.true_and]
      by_cases h0 : j = 0
      · subst h0; simp
      · have h3 : (j : Int) > 0 := by omega
        have h4 : j - 1 < l.length := by omega
        simp only [h3, decide_true, cond_true, w64_pred (show 0 < j by omega) (by omega), inb_lt h4, grd_true, at_lt h4, h0, decide_false, Bool.false_or, getD_lt h4]
        cases slt l[j - 1].1 l[j].1 <;> rfl
  · have h1 : (j : Int) < (l.length : Int) := by omega
    simp only [spec_AreValidRelations_l0, spec_AreValidRelations_l0_b, h1, decide_true, cond_true, inb_lt hj, grd_true, at_lt hj, specRel, Option.bind_some, getD_lt hj, w64_succ (show j < 4611686018427387904 by omega)]
    cases validRel l[j] with
    | false => rfl
    | true =>
      simp only [Bool.not_true, cond_false, Bool.true_and]
      by_cases h0 : j = 0
      · subst h0; simp
      · have h3 : (j : Int) > 0 := by omega
        have h4 : j - 1 < l.length := by omega
        simp only [h3, decide_true, cond_true, w64_pred (show 0 < j by omega) (by omega), inb_lt h4, grd_true, at_lt h4, h0, decide_false, Bool.false_or, getD_lt h4]
        cases slt l[j - 1].1 l[j].1 <;> rfl

def validVals (xs : List Int) : Bool := xs.all fun x => decide (0 ≤ x ∧ x ≤ 9)
theorem all_iff {α : Type} {d : α} {xs : List α} {p : α → Bool} : (∀ j, j < xs.length → p (xs.getD j d) = true) ↔ xs.all p = true := by
  rw [List.all_eq_true]
  constructor
  · intro h x hx
    obtain ⟨i, hi, rfl⟩ := List.mem_iff_getElem.1 hx
    have := h i hi
    rwa [getD_lt hi] at this
  · intro h j hj
    rw [getD_lt hj]
    exact h _ (List.getElem_mem hj)
/-- A fact's own part: its relation, its length, its values. -/
def fact1 (l : List Rel) (f : Fact) : Bool := decide (0 ≤ f.1 ∧ f.1 ≤ (l.length : Int) - 1) && (decide ((f.2.length : Int) = (l.getD f.1.toNat (⟨#[]⟩, 0, 0)).2.1) && validVals f.2)
theorem specFact {N : Nat} {l : List Rel} {f : Fact} (hl : l.length ≤ 1048576) (hf : f.2.length ≤ 1048576) (hN : 1048576 < N) : spec_IsValidFact N l f = some (validRels l && fact1 l f) := by
  obtain ⟨r, v⟩ := f
  unfold spec_IsValidFact spec_IsValidFact_b
  rw [specRels hl hN, Option.bind_some]
  cases validRels l with
  | false => rfl
  | true =>
    simp only [Bool.not_true, cond_false, l1In, Option.bind_some, Bool.true_and, fact1]
    rw [w64_id (by omega) (by omega)]
    by_cases h : 0 ≤ r ∧ r ≤ (l.length : Int) - 1
    · have h2 : r.toNat < l.length := by omega
      simp only [h, and_self, decide_true, Bool.not_true, cond_false, inb_int h.1 (show r < l.length by omega), grd_true, at_int h.1 (show r < l.length by omega), bneI, getD_lt h2, Bool.true_and]
      by_cases h3 : (v.length : Int) = l[r.toNat].2.1
      · simp only [h3, decide_true, Bool.not_true, cond_false, Bool.true_and]
        rw [everyE (n := v.length) (fun j => decide (0 ≤ v.getD j 0 ∧ v.getD j 0 ≤ 9)) (some false) (some true) (fun k i => spec_IsValidFact_l0 N k r v i) (fun k => by simp [spec_IsValidFact_l0, spec_IsValidFact_l0_b]) (fun k j hj => ?_) (by simp only at hf; omega)]
        · unfold validVals
          by_cases h4 : ∀ j, j < v.length → decide (0 ≤ v.getD j 0 ∧ v.getD j 0 ≤ 9) = true
          · rw [if_pos h4, (all_iff (d := (0 : Int)) (p := fun x => decide (0 ≤ x ∧ x ≤ 9))).1 h4]
          · rw [if_neg h4]
            congr 1; symm
            rw [Bool.eq_false_iff]
            exact fun h5 => h4 ((all_iff (d := (0 : Int)) (p := fun x => decide (0 ≤ x ∧ x ≤ 9))).2 h5)
        · have h1 : (j : Int) < (v.length : Int) := by omega
          simp only at hf
          simp only [spec_IsValidFact_l0, spec_IsValidFact_l0_b, h1, decide_true, cond_true, inb_lt hj, grd_true, at_lt hj, l1In, Option.bind_some, getD_lt hj, w64_succ (show j < 4611686018427387904 by omega), ite_dec]
      · simp only [h3, decide_false, Bool.not_false, cond_true, Bool.false_and]
    · simp only [h, decide_false, Bool.not_false, cond_true, Bool.false_and]

def cmpInts : List Int → List Int → Int
  | [], [] => 0
  | [], _ :: _ => -1
  | _ :: _, [] => 1
  | a :: x, b :: y => if a < b then -1 else if a > b then 1 else cmpInts x y
theorem cmpInts_eq : ∀ (a b : List Int), cmpInts a b = 0 ↔ a = b
  | [], [] => by simp [cmpInts]
  | [], _ :: _ => by simp [cmpInts]
  | _ :: _, [] => by simp [cmpInts]
  | a :: x, b :: y => by
    simp only [cmpInts, List.cons.injEq]
    split
    · rename_i h; constructor
      · intro h; omega
      · intro h2; omega
    · split
      · rename_i h; constructor
        · intro h; omega
        · intro h2; omega
      · rw [cmpInts_eq x y]
        constructor
        · intro h; exact ⟨by omega, h⟩
        · intro h; exact h.2
theorem specInts {N : Nat} {a b : List Int} (ha : a.length ≤ 1048576) (hb : b.length ≤ 1048576) (hN : 1048576 < N) : spec_l3Ints N a b = some (cmpInts a b) := by
  unfold spec_l3Ints spec_l3Ints_b
  have := loop (fun k (j : Nat) => spec_l3Ints_l0 N k a b (j : Int)) (fun j => j ≤ a.length ∧ j ≤ b.length ∧ cmpInts (a.drop j) (b.drop j) = cmpInts a b) (fun j => a.length - j) (fun o => o = some (cmpInts a b)) (fun k j hs => by
    obtain ⟨h1, h2, h3⟩ := hs
    by_cases hj : j < a.length
    · by_cases hjb : j < b.length
      · have e1 : (j : Int) < (a.length : Int) := by omega
        have e2 : (j : Int) < (b.length : Int) := by omega
        simp only [spec_l3Ints_l0, spec_l3Ints_l0_b, e1, e2, decide_true, cond_true, inb_lt hj, inb_lt hjb, grd_true, at_lt hj, at_lt hjb, w64_succ (show j < 4611686018427387904 by omega)]
        rw [List.drop_eq_getElem_cons hj, List.drop_eq_getElem_cons hjb] at h3
        simp only [cmpInts] at h3
        by_cases hlt : a[j] < b[j]
        · left; simp only [hlt, if_true, decide_true, cond_true] at h3 ⊢; rw [h3]
        · by_cases hgt : a[j] > b[j]
          · left; simp only [hlt, hgt, if_true, if_false, decide_true, decide_false, cond_true, cond_false] at h3 ⊢; rw [h3]
          · right
            simp only [hlt, hgt, if_false, decide_false, cond_false] at h3 ⊢
            exact ⟨j + 1, ⟨by omega, by omega, h3⟩, by omega, rfl⟩
      · left
        have e1 : (j : Int) < (a.length : Int) := by omega
        have e2 : ¬ (j : Int) < (b.length : Int) := by omega
        have e3 : ¬ (a.length : Int) < (b.length : Int) := by omega
        have e4 : (a.length : Int) > (b.length : Int) := by omega
        simp only [spec_l3Ints_l0, spec_l3Ints_l0_b, e1, e2, e3, e4, decide_true, decide_false, cond_true, cond_false]
        rw [List.drop_eq_getElem_cons hj, List.drop_of_length_le (l := b) (by omega)] at h3
        rw [← h3]; rfl
    · left
      have hja : j = a.length := by omega
      have e1 : ¬ (j : Int) < (a.length : Int) := by omega
      simp only [spec_l3Ints_l0, spec_l3Ints_l0_b, e1, decide_false, cond_false]
      rw [List.drop_of_length_le (l := a) (by omega)] at h3
      by_cases hlt : a.length < b.length
      · have e2 : (a.length : Int) < (b.length : Int) := by omega
        simp only [e2, decide_true, cond_true]
        rw [List.drop_eq_getElem_cons (by omega)] at h3
        rw [← h3]; rfl
      · have e2 : ¬ (a.length : Int) < (b.length : Int) := by omega
        have e3 : ¬ (a.length : Int) > (b.length : Int) := by omega
        simp only [e2, e3, decide_false, cond_false]
        rw [List.drop_of_length_le (by omega)] at h3
        rw [← h3]; rfl) N 0 (by omega) ⟨by omega, by omega, rfl⟩
  exact this
theorem implInts {N : Nat} {a b : List Int} (ha : a.length ≤ 1048576) (hb : b.length ≤ 1048576) (hN : 1048576 < N) : slices_Compare_Lint_int N a b = some (cmpInts a b) := by
  have hc : ∀ x y : Int, cmp_Compare_int N x y = some (if x < y then -1 else if x > y then 1 else 0) := by
    intro x y
    simp only [cmp_Compare_int, cmp_isNaN_int, Option.bind_some, bneI, decide_true, Bool.not_true, cond_false]
    by_cases h1 : x < y
    · simp [h1]
    · by_cases h2 : x > y <;> simp [h1, h2]
  unfold slices_Compare_Lint_int slices_Compare_Lint_int_b
  have := loop (fun k (j : Nat) => slices_Compare_Lint_int_l0 N k a b a (a.length : Int) (j : Int)) (fun j => j ≤ a.length ∧ j ≤ b.length ∧ cmpInts (a.drop j) (b.drop j) = cmpInts a b) (fun j => a.length - j) (fun o => o = some (cmpInts a b)) (fun k j hs => by
    obtain ⟨h1, h2, h3⟩ := hs
    by_cases hj : j < a.length
    · have e1 : (j : Int) < (a.length : Int) := by omega
      by_cases hjb : j < b.length
      · have e2 : ¬ (j : Int) ≥ (b.length : Int) := by omega
        simp only [slices_Compare_Lint_int_l0, slices_Compare_Lint_int_l0_b, e1, e2, decide_true, decide_false, cond_true, cond_false, inb_lt hj, inb_lt hjb, grd_true, at_lt hj, at_lt hjb, w64_succ (show j < 4611686018427387904 by omega), hc, Option.bind_some]
        rw [List.drop_eq_getElem_cons hj, List.drop_eq_getElem_cons hjb] at h3
        simp only [cmpInts] at h3
        by_cases hlt : a[j] < b[j]
        · left; simp only [hlt, if_true] at h3 ⊢; rw [← h3]; rfl
        · by_cases hgt : a[j] > b[j]
          · left; simp only [hlt, hgt, if_true, if_false] at h3 ⊢; rw [← h3]; rfl
          · right
            simp only [hlt, hgt, if_false] at h3 ⊢
            exact ⟨j + 1, ⟨by omega, by omega, h3⟩, by omega, rfl⟩
      · left
        have e2 : (j : Int) ≥ (b.length : Int) := by omega
        simp only [slices_Compare_Lint_int_l0, slices_Compare_Lint_int_l0_b, e1, e2, decide_true, cond_true, inb_lt hj, grd_true]
        rw [List.drop_eq_getElem_cons hj, List.drop_of_length_le (l := b) (by omega)] at h3
        rw [← h3]; rfl
    · left
      have e1 : ¬ (j : Int) < (a.length : Int) := by omega
      simp only [slices_Compare_Lint_int_l0, slices_Compare_Lint_int_l0_b, e1, decide_false, cond_false]
      rw [List.drop_of_length_le (l := a) (by omega)] at h3
      by_cases hlt : a.length < b.length
      · have e2 : (a.length : Int) < (b.length : Int) := by omega
        simp only [e2, decide_true, cond_true]
        rw [List.drop_eq_getElem_cons (by omega)] at h3
        rw [← h3]; rfl
      · have e2 : ¬ (a.length : Int) < (b.length : Int) := by omega
        simp only [e2, decide_false, cond_false]
        rw [List.drop_of_length_le (by omega)] at h3
        rw [← h3]; rfl) N 0 (by omega) ⟨by omega, by omega, rfl⟩
  exact this
def cmpFacts (a b : Fact) : Int := if a.1 < b.1 then -1 else if a.1 > b.1 then 1 else cmpInts a.2 b.2
theorem specCmp {N : Nat} {a b : Fact} (ha : a.2.length ≤ 1048576) (hb : b.2.length ≤ 1048576) (hN : 1048576 < N) : spec_CompareFacts N a b = some (cmpFacts a b) := by
  unfold spec_CompareFacts cmpFacts
  rw [specInts ha hb hN]
  by_cases h1 : a.1 < b.1
  · simp [h1]
  · by_cases h2 : a.1 > b.1 <;> simp [h1, h2]
theorem implCmp {N : Nat} {a b : Fact} (ha : a.2.length ≤ 1048576) (hb : b.2.length ≤ 1048576) (hN : 1048576 < N) : impl_CompareFacts N a b = some (cmpFacts a b) := by
  unfold impl_CompareFacts cmpFacts impl_compare
  rw [implInts ha hb hN, bneI]
  by_cases h1 : a.1 < b.1
  · have : ¬ a.1 = b.1 := by omega
    simp [h1, this]
  · by_cases h2 : a.1 > b.1
    · have : ¬ a.1 = b.1 := by omega
      simp [h1, h2, this]
    · have : a.1 = b.1 := by omega
      simp [this]
theorem getD_any {α : Type} (d : α) {xs : List α} {p : α → Bool} : (∃ j, j < xs.length ∧ p (xs.getD j d) = true) ↔ xs.any p = true := by
  rw [List.any_eq_true]
  constructor
  · rintro ⟨j, hj, h⟩
    rw [getD_lt hj] at h
    exact ⟨_, List.getElem_mem hj, h⟩
  · rintro ⟨x, hx, h⟩
    obtain ⟨i, hi, rfl⟩ := List.mem_iff_getElem.1 hx
    exact ⟨i, hi, by rw [getD_lt hi]; exact h⟩
/-- 'Is there one of which it holds': the first index is not negative. -/
theorem contains_of {α : Type} {d : α} {xs : List α} {p : α → Bool} {g : Option Int} (h : (∃ j, j < xs.length ∧ p (xs.getD j d) = true ∧ (∀ i, i < j → p (xs.getD i d) = false) ∧ g = some (j : Int)) ∨ ((∀ i, i < xs.length → p (xs.getD i d) = false) ∧ g = some (-1))) : (g.bind fun r => some (decide (r ≥ 0))) = some (xs.any p) := by
  rcases h with ⟨j, h1, h2, _, rfl⟩ | ⟨h1, rfl⟩
  · rw [(getD_any d).1 ⟨j, h1, h2⟩]
    simp
  · have : xs.any p = false := by
      rw [Bool.eq_false_iff]
      intro h
      obtain ⟨j, hj, h2⟩ := (getD_any d).2 h
      rw [h1 j hj] at h2; simp at h2
    rw [this]; rfl

theorem areValues {N : Nat} {v : List Int} (hv : v.length ≤ 1048576) (hN : 1048576 < N) : impl_areValues N v = some (validVals v) := by
  unfold impl_areValues slices_ContainsFunc_Lint_int_areValues_c1 slices_IndexFunc_Lint_int_areValues_c1 slices_IndexFunc_Lint_int_areValues_c1_b
  rw [contains_of (d := (0 : Int)) (xs := v) (p := fun x => !decide (0 ≤ x ∧ x ≤ 9)) (first (n := v.length) (fun j => !decide (0 ≤ v.getD j 0 ∧ v.getD j 0 ≤ 9)) (fun k i => slices_IndexFunc_Lint_int_areValues_c1_l0 N k v (v.length : Int) i) (fun k => by simp [slices_IndexFunc_Lint_int_areValues_c1_l0, slices_IndexFunc_Lint_int_areValues_c1_l0_b]) (fun k j hj => ?_) (by omega))]
  · simp only [Option.bind_some, validVals]
    rw [show (v.any fun x => !decide (0 ≤ x ∧ x ≤ 9)) = !(v.all fun x => decide (0 ≤ x ∧ x ≤ 9)) from (List.not_all_eq_any_not (l := v) (p := fun x => decide (0 ≤ x ∧ x ≤ 9))).symm, Bool.not_not]
  · have h1 : (j : Int) < (v.length : Int) := by omega
    simp only [slices_IndexFunc_Lint_int_areValues_c1_l0, slices_IndexFunc_Lint_int_areValues_c1_l0_b, h1, decide_true, cond_true, inb_lt hj, grd_true, at_lt hj, impl_areValues_c1, within, Option.bind_some, getD_lt hj, w64_succ (show j < 4611686018427387904 by omega)]
    cases decide (0 ≤ v[j] ∧ v[j] ≤ 9) <;> rfl
theorem implFact1 {N : Nat} {l : List Rel} {f : Fact} (hl : l.length ≤ 1048576) (hf : f.2.length ≤ 1048576) (hN : 1048576 < N) : impl_isFact N l f = some (fact1 l f) := by
  obtain ⟨r, v⟩ := f
  simp only [impl_isFact, within, Option.bind_some, fact1]
  rw [w64_id (by omega) (by omega)]
  by_cases h : 0 ≤ r ∧ r ≤ (l.length : Int) - 1
  · have h2 : r.toNat < l.length := by omega
    simp only [h, and_self, decide_true, cond_true, inb_int h.1 (show r < l.length by omega), grd_true, at_int h.1 (show r < l.length by omega), beqI, getD_lt h2, Bool.true_and]
    simp only at hf
    rw [areValues hf hN]
    cases decide ((v.length : Int) = l[r.toNat].2.1) <;> rfl
  · simp only [h, decide_false, cond_false, Bool.false_and]

def factAt (d : Db) (j : Nat) : Fact := d.2.getD j (0, [])
def factsOk (d : Db) : Prop := ∀ j, j < d.2.length → (fact1 d.1 (factAt d j) && (decide (j = 0) || decide (cmpFacts (factAt d (j - 1)) (factAt d j) < 0))) = true
instance (d : Db) : Decidable (factsOk d) := by unfold factsOk; infer_instance
def validDb (d : Db) : Bool := validRels d.1 && (decide (d.2.length ≤ 14) && decide (factsOk d))
theorem specDb {N : Nat} {d : Db} (h : SmallDb d) (hN : 1048576 < N) : spec_IsValidDatabase N d = some (validDb d) := by
  have hv : ∀ j, j < d.2.length → (factAt d j).2.length ≤ 1048576 := fun j hj => by unfold factAt; rw [getD_lt hj]; exact h.vals _ (List.getElem_mem hj)
  unfold spec_IsValidDatabase spec_IsValidDatabase_b
  rw [everyE (n := d.2.length) (fun j => (validRels d.1 && fact1 d.1 (factAt d j)) && (decide (j = 0) || decide (cmpFacts (factAt d (j - 1)) (factAt d j) < 0))) (some false) (some (validRels d.1 && decide (d.2.length ≤ 14))) (fun k i => spec_IsValidDatabase_l0 N k d.1 d.2 i)
    (fun k => by
      simp only [spec_IsValidDatabase_l0, spec_IsValidDatabase_l0_b, Int.lt_irrefl, decide_false, cond_false, specRels h.rels hN, Option.bind_some]
      cases validRels d.1 with
      | false => rfl
      | true => simp only [cond_true, Bool.true_and, Option.some.injEq]; exact decide_eq_decide.2 (by omega)) (fun k j hj => ?_) (by have := h.facts; omega)]
  · unfold validDb factsOk
    cases hr : validRels d.1 with
    | true =>
      simp only [Bool.true_and]
      by_cases h2 : ∀ j, j < d.2.length → (fact1 d.1 (factAt d j) && (decide (j = 0) || decide (cmpFacts (factAt d (j - 1)) (factAt d j) < 0))) = true
      · rw [if_pos h2, decide_eq_true h2, Bool.and_true]
      · rw [if_neg h2, decide_eq_false h2, Bool.and_false]
    | false => simp
  · have h1 : (j : Int) < (d.2.length : Int) := by omega
    have hf := h.facts
    have ha : at_ (0, []) d.2 (j : Int) = factAt d j := by unfold factAt; rw [at_lt hj, getD_lt hj]
    simp only [spec_IsValidDatabase_l0, spec_IsValidDatabase_l0_b, h1, decide_true, cond_true, inb_lt hj, grd_true, ha, specFact h.rels (hv j hj) hN, Option.bind_some, w64_succ (show j < 4611686018427387904 by omega)]
    cases validRels d.1 && fact1 d.1 (factAt d j) with
    | false => rfl
    | true =>
      simp only [Bool.not_true, cond_false, Bool.true_and]
      by_cases h0 : j = 0
      · subst h0; simp
      · have h3 : (j : Int) > 0 := by omega
        have h4 : j - 1 < d.2.length := by omega
        have hb : at_ (0, []) d.2 ((j - 1 : Nat) : Int) = factAt d (j - 1) := by unfold factAt; rw [at_lt h4, getD_lt h4]
        simp only [h3, decide_true, cond_true, w64_pred (show 0 < j by omega) (by omega), inb_lt h4, grd_true, hb, specCmp (hv _ h4) (hv _ hj) hN, Option.bind_some, h0, decide_false, Bool.false_or]
        by_cases h5 : cmpFacts (factAt d (j - 1)) (factAt d j) < 0
        · have : ¬ cmpFacts (factAt d (j - 1)) (factAt d j) ≥ 0 := by omega
          simp [h5, this]
        · have : cmpFacts (factAt d (j - 1)) (factAt d j) ≥ 0 := by omega
          simp [h5, this]
theorem implDb {N : Nat} {d : Db} (h : SmallDb d) (hN : 1048576 < N) : impl_IsValidDatabase N d = some (validDb d) := by
  have hv : ∀ j, j < d.2.length → (factAt d j).2.length ≤ 1048576 := fun j hj => by unfold factAt; rw [getD_lt hj]; exact h.vals _ (List.getElem_mem hj)
  unfold impl_IsValidDatabase impl_IsValidDatabase_b
  rw [implRels h.rels hN, Option.bind_some]
  unfold validDb
  cases validRels d.1 with
  | false => rfl
  | true =>
    simp only [Bool.not_true, cond_false, Bool.true_and]
    by_cases h14 : d.2.length ≤ 14
    · have : ¬ (d.2.length : Int) > 14 := by omega
      simp only [this, decide_false, cond_false, h14, decide_true, Bool.true_and]
      rw [everyE (n := d.2.length) (fun j => fact1 d.1 (factAt d j) && (decide (j = 0) || decide (cmpFacts (factAt d (j - 1)) (factAt d j) < 0))) (some false) (some true) (fun k i => impl_IsValidDatabase_l0 N k d.1 d.2 d.2 (d.2.length : Int) i)
        (fun k => by simp [impl_IsValidDatabase_l0, impl_IsValidDatabase_l0_b]) (fun k j hj => ?_) (by omega)]
      · unfold factsOk
        by_cases h2 : ∀ j, j < d.2.length → (fact1 d.1 (factAt d j) && (decide (j = 0) || decide (cmpFacts (factAt d (j - 1)) (factAt d j) < 0))) = true
        · rw [if_pos h2, decide_eq_true h2]
        · rw [if_neg h2, decide_eq_false h2]
      · have h1 : (j : Int) < (d.2.length : Int) := by omega
        have ha : at_ (0, []) d.2 (j : Int) = factAt d j := by unfold factAt; rw [at_lt hj, getD_lt hj]
        simp only [impl_IsValidDatabase_l0, impl_IsValidDatabase_l0_b, h1, decide_true, cond_true, inb_lt hj, grd_true, ha, implFact1 h.rels (hv j hj) hN, Option.bind_some, w64_succ (show j < 4611686018427387904 by omega)]
        cases fact1 d.1 (factAt d j) with
        | false => rfl
        | true =>
          simp only [Bool.not_true, cond_false, Bool.true_and]
          by_cases h0 : j = 0
          · subst h0; simp
          · have h3 : (j : Int) > 0 := by omega
            have h4 : j - 1 < d.2.length := by omega
            have hb : at_ (0, []) d.2 ((j - 1 : Nat) : Int) = factAt d (j - 1) := by unfold factAt; rw [at_lt h4, getD_lt h4]
            simp only [h3, decide_true, cond_true, w64_pred (show 0 < j by omega) (by omega), inb_lt h4, grd_true, hb, implCmp (hv _ h4) (hv _ hj) hN, Option.bind_some, h0, decide_false, Bool.false_or]
            by_cases h5 : cmpFacts (factAt d (j - 1)) (factAt d j) < 0
            · have : ¬ cmpFacts (factAt d (j - 1)) (factAt d j) ≥ 0 := by omega
              simp [h5, this]
            · have : cmpFacts (factAt d (j - 1)) (factAt d j) ≥ 0 := by omega
              simp [h5, this]
    · have : (d.2.length : Int) > 14 := by omega
      simp [this, h14]
end Go.PL
namespace Go.PL
set_option linter.unusedVariables false
def weightsIn (w : List Int) : Bool := w.all fun x => decide (1 ≤ x ∧ x ≤ 9)
def validWeights (d : Db) (w : List Int) : Bool := validDb d && (decide (w.length = d.2.length) && weightsIn w)
theorem specWeights {N : Nat} {d : Db} {w : List Int} (h : SmallDb d) (hw : w.length ≤ 1048576) (hN : 1048576 < N) : spec_AreValidWeights N d w = some (validWeights d w) := by
  unfold spec_AreValidWeights spec_AreValidWeights_b
  rw [everyE (n := w.length) (fun j => decide (1 ≤ w.getD j 0 ∧ w.getD j 0 ≤ 9)) (some false) (some (validDb d && decide (w.length = d.2.length))) (fun k i => spec_AreValidWeights_l0 N k w d.1 d.2 i)
    (fun k => by
      simp only [spec_AreValidWeights_l0, spec_AreValidWeights_l0_b, Int.lt_irrefl, decide_false, cond_false, specDb (d := (d.1, d.2)) h hN, Option.bind_some, beqI]
      cases hv : validDb d with
      | false => rfl
      | true => simp only [cond_true, Bool.true_and, Option.some.injEq]; exact decide_eq_decide.2 (by omega)) (fun k j hj => ?_) (by omega)]
  · unfold validWeights weightsIn
    by_cases h4 : ∀ j, j < w.length → decide (1 ≤ w.getD j 0 ∧ w.getD j 0 ≤ 9) = true
    · rw [if_pos h4, (all_iff (d := (0 : Int)) (p := fun x => decide (1 ≤ x ∧ x ≤ 9))).1 h4, Bool.and_true]
    · rw [if_neg h4]
      congr 1; symm
      have : (w.all fun x => decide (1 ≤ x ∧ x ≤ 9)) = false := by
        rw [Bool.eq_false_iff]
        exact fun h5 => h4 ((all_iff (d := (0 : Int)) (p := fun x => decide (1 ≤ x ∧ x ≤ 9))).2 h5)
      rw [this, Bool.and_false, Bool.and_false]
  · have h1 : (j : Int) < (w.length : Int) := by omega
    simp only [spec_AreValidWeights_l0, spec_AreValidWeights_l0_b, h1, decide_true, cond_true, inb_lt hj, grd_true, at_lt hj, l1In, Option.bind_some, getD_lt hj, w64_succ (show j < 4611686018427387904 by omega), ite_dec]
theorem implWeights {N : Nat} {d : Db} {w : List Int} (h : SmallDb d) (hw : w.length ≤ 1048576) (hN : 1048576 < N) : impl_AreValidWeights N d w = some (validWeights d w) := by
  unfold impl_AreValidWeights
  rw [implDb h hN, Option.bind_some]
  unfold validWeights
  cases validDb d with
  | false => rfl
  | true =>
    simp only [cond_true, Bool.true_and, beqI]
    by_cases he : w.length = d.2.length
    · have e2 : (w.length : Int) = (d.2.length : Int) := by omega
      rw [decide_eq_true e2, cond_true, decide_eq_true he, Bool.true_and]
      unfold slices_ContainsFunc_Lint_int_AreValidWeights_c1 slices_IndexFunc_Lint_int_AreValidWeights_c1 slices_IndexFunc_Lint_int_AreValidWeights_c1_b
      rw [contains_of (d := (0 : Int)) (xs := w) (p := fun x => !decide (1 ≤ x ∧ x ≤ 9)) (first (n := w.length) (fun j => !decide (1 ≤ w.getD j 0 ∧ w.getD j 0 ≤ 9)) (fun k i => slices_IndexFunc_Lint_int_AreValidWeights_c1_l0 N k w (w.length : Int) i) (fun k => by simp [slices_IndexFunc_Lint_int_AreValidWeights_c1_l0, slices_IndexFunc_Lint_int_AreValidWeights_c1_l0_b]) (fun k j hj => ?_) (by omega))]
      · simp only [Option.bind_some, weightsIn]
        rw [show (w.any fun x => !decide (1 ≤ x ∧ x ≤ 9)) = !(w.all fun x => decide (1 ≤ x ∧ x ≤ 9)) from (List.not_all_eq_any_not (l := w) (p := fun x => decide (1 ≤ x ∧ x ≤ 9))).symm, Bool.not_not]
      · have h1 : (j : Int) < (w.length : Int) := by omega
        simp only [slices_IndexFunc_Lint_int_AreValidWeights_c1_l0, slices_IndexFunc_Lint_int_AreValidWeights_c1_l0_b, h1, decide_true, cond_true, inb_lt hj, grd_true, at_lt hj, impl_AreValidWeights_c1, within, Option.bind_some, getD_lt hj, w64_succ (show j < 4611686018427387904 by omega)]
        cases decide (1 ≤ w[j] ∧ w[j] ≤ 9) <;> rfl
    · have e2 : ¬ (w.length : Int) = (d.2.length : Int) := by omega
      rw [decide_eq_false e2, decide_eq_false he]; rfl
end Go.PL
namespace Go.PL
set_option linter.unusedVariables false
theorem cmpInts_trans : ∀ (a b c : List Int), cmpInts a b < 0 → cmpInts b c < 0 → cmpInts a c < 0
  | [], [], c, h, _ => by simp [cmpInts] at h
  | [], _ :: _, [], _, h => by simp [cmpInts] at h
  | [], _ :: _, _ :: _, _, _ => by simp [cmpInts]
  | _ :: _, [], c, h, _ => by simp [cmpInts] at h
  | _ :: _, _ :: _, [], _, h => by simp [cmpInts] at h
  | x :: a, y :: b, z :: c, h1, h2 => by
    simp only [cmpInts] at h1 h2 ⊢
    by_cases hxy : x < y
    · by_cases hyz : y < z
      · rw [if_pos (by omega)]; omega
      · rw [if_neg hyz] at h2
        split at h2
        · omega
        · rw [if_pos (by omega)]; omega
    · rw [if_neg hxy] at h1
      split at h1
      · omega
      · have : x = y := by omega
        subst this
        by_cases hyz : x < z
        · rw [if_pos hyz]; omega
        · rw [if_neg hyz] at h2 ⊢
          split at h2
          · omega
          · rename_i hg
            rw [if_neg hg]
            exact cmpInts_trans a b c h1 h2
theorem cmpFacts_trans {a b c : Fact} (h1 : cmpFacts a b < 0) (h2 : cmpFacts b c < 0) : cmpFacts a c < 0 := by
  unfold cmpFacts at h1 h2 ⊢
  by_cases hab : a.1 < b.1
  · by_cases hbc : b.1 < c.1
    · rw [if_pos (by omega)]; omega
    · rw [if_neg hbc] at h2
      split at h2
      · omega
      · rw [if_pos (by omega)]; omega
  · rw [if_neg hab] at h1
    split at h1
    · omega
    · by_cases hbc : b.1 < c.1
      · rw [if_pos (by omega)]; omega
      · rw [if_neg hbc] at h2
        split at h2
        · omega
        · rw [if_neg (by omega), if_neg (by omega)]
          exact cmpInts_trans _ _ _ h1 h2
/-- What lies between two that begin alike begins as they do. -/
theorem cmp_take : ∀ (n : Nat) (a b c : List Int), cmpInts a b < 0 → cmpInts b c < 0 → a.take n = c.take n → a.length = b.length → b.length = c.length → a.take n = b.take n
  | 0, _, _, _, _, _, _, _, _ => by simp
  | n + 1, [], [], _, h, _, _, _, _ => by simp [cmpInts] at h
  | n + 1, [], _ :: _, _, _, _, _, h, _ => by simp at h
  | n + 1, _ :: _, [], _, _, _, _, h, _ => by simp at h
  | n + 1, _ :: _, _ :: _, [], _, _, _, _, h => by simp at h
  | n + 1, x :: a, y :: b, z :: c, h1, h2, h3, h4, h5 => by
    simp only [List.take_succ_cons, List.cons.injEq] at h3 ⊢
    simp only [cmpInts] at h1 h2
    obtain ⟨rfl, h3⟩ := h3
    by_cases hxy : x < y
    · rw [if_neg (by omega), if_pos (by omega)] at h2; omega
    · rw [if_neg hxy] at h1
      split at h1
      · omega
      · have : x = y := by omega
        subst this
        rw [if_neg (by omega), if_neg (by omega)] at h2
        exact ⟨rfl, cmp_take n a b c h1 h2 h3 (by simpa using h4) (by simpa using h5)⟩

section
variable (S : Nat → Nat → Bool)
def blk (n s : Nat) : List Nat := (List.range n).filter (S s)
def isSt (s : Nat) : Bool := (List.range s).all fun k => !S s k
def sts (n : Nat) : List Nat := (List.range n).filter (isSt S)
def B (n : Nat) : List (List Nat) := (sts S n).map (blk S n)
structure Runs (n : Nat) : Prop where
  refl : ∀ i, S i i = true
  symm : ∀ i k, S i k = true → S k i = true
  trans : ∀ i j k, S i j = true → S j k = true → S i k = true
  run : ∀ i j k, i ≤ j → j ≤ k → k < n → S i k = true → S i j = true
variable {S}
theorem isSt_iff {s : Nat} : isSt S s = true ↔ ∀ k, k < s → S s k = false := by
  unfold isSt
  rw [List.all_eq_true]
  constructor
  · intro h k hk
    have := h k (List.mem_range.2 hk)
    simpa using this
  · intro h k hk
    rw [h k (List.mem_range.1 hk)]; rfl
theorem sts_succ (n : Nat) : sts S (n + 1) = sts S n ++ (if isSt S n = true then [n] else []) := by
  unfold sts
  rw [List.range_succ, List.filter_append]
  congr 1
  by_cases h : isSt S n = true <;> simp [h]
theorem blk_succ (n s : Nat) : blk S (n + 1) s = blk S n s ++ (if S s n = true then [n] else []) := by
  unfold blk
  rw [List.range_succ, List.filter_append]
  congr 1
  by_cases h : S s n = true <;> simp [h]
theorem mem_sts {n s : Nat} : s ∈ sts S n ↔ s < n ∧ isSt S s = true := by
  unfold sts; rw [List.mem_filter, List.mem_range]
theorem blk_start {n : Nat} (h : isSt S n = true) : blk S n n = [] := by
  unfold blk
  rw [List.filter_eq_nil_iff]
  intro k hk
  rw [isSt_iff.1 h k (List.mem_range.1 hk)]; simp
theorem B_new {N n : Nat} (hS : Runs S N) (h : isSt S n = true) : B S (n + 1) = B S n ++ [[n]] := by
  unfold B
  rw [sts_succ, if_pos h, List.map_append]
  congr 1
  · apply List.map_congr_left
    intro s hs
    obtain ⟨h1, h2⟩ := mem_sts.1 hs
    rw [blk_succ, if_neg, List.append_nil]
    intro hc
    have := hS.symm _ _ hc
    rw [isSt_iff.1 h s h1] at this
    simp at this
  · simp only [List.map_cons, List.map_nil]
    rw [blk_succ, blk_start h, if_pos (hS.refl n)]; rfl
theorem last_start {N : Nat} (hS : Runs S N) : ∀ n, 0 < n → n ≤ N → ∃ A t, sts S n = A ++ [t] ∧ t < n ∧ isSt S t = true ∧ ∀ k, t ≤ k → k < n → S t k = true
  | 0, h, _ => by omega
  | n + 1, _, hN => by
    by_cases h : isSt S n = true
    · refine ⟨sts S n, n, by rw [sts_succ, if_pos h], by omega, h, fun k h1 h2 => ?_⟩
      have : k = n := by omega
      subst this
      exact hS.refl _
    · have hn : 0 < n := by
        apply Decidable.byContradiction
        intro h0
        have : n = 0 := by omega
        subst this
        apply h
        rw [isSt_iff]; intro k hk; omega
      obtain ⟨A, t, e, h1, h2, h3⟩ := last_start hS n hn (by omega)
      refine ⟨A, t, by rw [sts_succ, if_neg h, List.append_nil]; exact e, by omega, h2, fun k k1 k2 => ?_⟩
      by_cases hk : k < n
      · exact h3 k k1 hk
      · have : k = n := by omega
        subst this
        obtain ⟨q, q1, q2⟩ : ∃ q, q < k ∧ S k q = true := by
          apply Decidable.byContradiction
          intro hc
          apply h
          rw [isSt_iff]
          intro q hq
          rw [Bool.eq_false_iff]
          exact fun hs => hc ⟨q, hq, hs⟩
        have q3 := hS.symm _ _ q2
        have q4 := hS.run q (k - 1) k (by omega) (by omega) (by omega) q3
        exact hS.trans _ _ _ (h3 (k - 1) (by omega) (by omega)) (hS.trans _ _ _ (hS.symm _ _ q4) q3)
theorem B_old {N n : Nat} (hS : Runs S N) (h : ¬ isSt S n = true) (hn : n < N) {A : List Nat} {t : Nat} (e : sts S n = A ++ [t]) (ht : S t n = true) : B S (n + 1) = A.map (blk S n) ++ [blk S n t ++ [n]] := by
  unfold B
  rw [sts_succ, if_neg h, List.append_nil, e, List.map_append]
  congr 1
  · apply List.map_congr_left
    intro s hs
    rw [blk_succ, if_neg, List.append_nil]
    intro hc
    have hst := hS.trans _ _ _ hc (hS.symm _ _ ht)
    have m1 := mem_sts.1 (show s ∈ sts S n by rw [e]; simp [hs])
    have m2 := mem_sts.1 (show t ∈ sts S n by rw [e]; simp)
    have hne : s ≠ t := by
      have hnd : (sts S n).Nodup := List.nodup_range.sublist List.filter_sublist
      rw [e] at hnd
      exact fun h => (List.nodup_append.1 hnd).2.2 s hs t (by simp) h
    by_cases hlt : s < t
    · have := isSt_iff.1 m2.2 s hlt
      rw [hS.symm _ _ hst] at this; simp at this
    · have := isSt_iff.1 m1.2 t (by omega)
      rw [hst] at this; simp at this
  · simp only [List.map_cons, List.map_nil]
    rw [blk_succ, if_pos ht]
theorem blk_head {n s : Nat} (hr : S s s = true) (hs : s < n) : ∃ h r, blk S n s = h :: r ∧ S s h = true ∧ (h = s ↔ isSt S s = true) := by
  have hm : s ∈ blk S n s := List.mem_filter.2 ⟨List.mem_range.2 hs, hr⟩
  cases hb : blk S n s with
  | nil => rw [hb] at hm; simp at hm
  | cons h r =>
    have hh : (blk S n s).head? = some h := by rw [hb]; rfl
    unfold blk at hh
    rw [List.head?_filter, List.find?_range_eq_some] at hh
    obtain ⟨h1, h2, h3⟩ := hh
    refine ⟨h, r, rfl, h1, ?_⟩
    constructor
    · intro e
      subst e
      rw [isSt_iff]
      intro k hk
      have := h3 k hk
      simpa using this
    · intro hst
      have h4 : ¬ h < s := fun hlt => by
        rw [isSt_iff.1 hst h hlt] at h1; simp at h1
      have h5 : ¬ s < h := fun hlt => by
        have := h3 s hlt
        rw [hr] at this; simp at this
      omega
theorem B_length {N : Nat} (hS : Runs S N) : ∀ n, n ≤ N → ((B S n).map List.length).sum = n
  | 0, _ => by simp [B, sts]
  | n + 1, hn => by
    by_cases h : isSt S n = true
    · rw [B_new hS h, List.map_append, List.sum_append, B_length hS n (by omega)]; simp
    · have hn0 : 0 < n := by
        apply Decidable.byContradiction
        intro h0
        have : n = 0 := by omega
        subst this
        apply h
        rw [isSt_iff]; intro k hk; omega
      obtain ⟨A, t, e, h1, h2, h3⟩ := last_start hS (n + 1) (by omega) hn
      have e' : sts S n = A ++ [t] := by rw [sts_succ, if_neg h, List.append_nil] at e; exact e
      have ih := B_length hS n (by omega)
      rw [B_old hS h (by omega) e' (h3 n (by omega) (by omega))]
      unfold B at ih
      rw [e'] at ih
      simp only [List.map_append, List.sum_append, List.map_cons, List.map_nil, List.sum_cons, List.sum_nil, List.length_append, List.length_singleton] at ih ⊢
      omega
end
end Go.PL
namespace Go.PL
set_option linter.unusedVariables false
def keyLen (l : List Rel) (f : Fact) : Int := (l.getD f.1.toNat (⟨#[]⟩, 0, 0)).2.2
def keyOf (l : List Rel) (f : Fact) : List Int := f.2.take (keyLen l f).toNat
def sameK (l : List Rel) (a b : Fact) : Bool := decide (a.1 = b.1) && decide (keyOf l a = keyOf l b)

theorem validRel_key {r : Rel} (h : validRel r = true) : 0 ≤ r.2.2 ∧ r.2.2 ≤ r.2.1 := by
  unfold validRel spec_IsValidRelation at h
  by_cases h1 : r.1.size = 1
  · have hb : ∃ b, byteAt r.1 0 = some b := by
      unfold byteAt
      have : (0 : Int).toNat < r.1.size := by omega
      exact ⟨r.1[(0 : Int).toNat], by rw [if_pos (by omega), getElem?_pos]⟩
    obtain ⟨b, hb⟩ := hb
    rw [hb] at h
    simp only [Option.bind_some, l1In] at h
    by_cases h2 : 0 ≤ r.2.2 ∧ r.2.2 ≤ r.2.1
    · exact h2
    · rw [decide_eq_false h2] at h
      exfalso
      revert h
      cases ((r.1.size : Int) == 1) <;> cases decide ((b.toNat : Int) ≥ 97) <;> cases decide ((b.toNat : Int) ≤ 122) <;> cases decide (1 ≤ r.2.1 ∧ r.2.1 ≤ 3) <;> simp
  · have h0 : ((r.1.size : Int) == 1) = false := by rw [beqI]; simp; omega
    rw [h0] at h
    simp at h
theorem validRels_at {l : List Rel} (h : validRels l = true) {j : Nat} (hj : j < l.length) : validRel (l.getD j (⟨#[]⟩, 0, 0)) = true := by
  have := (of_decide_eq_true h).1 j hj
  rw [Bool.and_eq_true] at this
  exact this.1
structure GoodFact (l : List Rel) (f : Fact) : Prop where
  lo : 0 ≤ f.1
  hi : f.1 < (l.length : Int)
  len : (f.2.length : Int) = (l.getD f.1.toNat (⟨#[]⟩, 0, 0)).2.1
  k0 : 0 ≤ keyLen l f
  k1 : keyLen l f ≤ (f.2.length : Int)
theorem goodFact {l : List Rel} {f : Fact} (hl : validRels l = true) (hf : fact1 l f = true) : GoodFact l f := by
  unfold fact1 at hf
  rw [Bool.and_eq_true, Bool.and_eq_true, decide_eq_true_eq, decide_eq_true_eq] at hf
  obtain ⟨⟨h1, h2⟩, h3, h4⟩ := hf
  have := validRel_key (validRels_at hl (j := f.1.toNat) (by omega))
  exact ⟨h1, by omega, h3, this.1, by rw [h3]; exact this.2⟩

theorem implEqual {N : Nat} {a b : List Int} (ha : a.length ≤ 1048576) (hN : 1048576 < N) : slices_Equal_Lint_int N a b = some (decide (a = b)) := by
  unfold slices_Equal_Lint_int slices_Equal_Lint_int_b
  by_cases hl : a.length = b.length
  · have : ((a.length : Int) != (b.length : Int)) = false := by rw [bneI]; simp; omega
    rw [this, cond_false, every (n := a.length) (fun j => decide (a[j]? = b[j]?)) (fun k i => slices_Equal_Lint_int_l0 N k a b (a.length : Int) i) (fun k => by simp [slices_Equal_Lint_int_l0, slices_Equal_Lint_int_l0_b]) (fun k j hj => ?_) (by omega)]
    · congr 1
      exact decide_eq_decide.2 (list_eq_iff hl).symm
    · have h1 : (j : Int) < (a.length : Int) := by omega
      have hjb : j < b.length := by omega
      simp only [slices_Equal_Lint_int_l0, slices_Equal_Lint_int_l0_b, h1, decide_true, cond_true, inb_lt hj, inb_lt hjb, grd_true, at_lt hj, at_lt hjb, w64_succ (show j < 4611686018427387904 by omega), bneI, List.getElem?_eq_getElem hj, List.getElem?_eq_getElem hjb, Option.some.injEq]
      by_cases h : a[j] = b[j] <;> simp [h]
  · have : ((a.length : Int) != (b.length : Int)) = true := by rw [bneI]; simp; omega
    have hne : ¬ a = b := fun h => hl (by rw [h])
    rw [this, cond_true, decide_eq_false hne]

theorem subOk_true {lo hi : Int} {n : Nat} (h1 : 0 ≤ lo) (h2 : lo ≤ hi) (h3 : hi ≤ (n : Int)) : subOk lo hi n = true := by
  unfold subOk; rw [decide_eq_true h1, decide_eq_true h2, decide_eq_true h3]; rfl
theorem appOk_lt {α : Type} {s x : List α} {b : Nat} (hb : b ≤ 1000) (h : s.length + x.length ≤ 140737488355) : appOk s x b = true := by
  unfold appOk
  refine decide_eq_true ?_
  calc (s.length + x.length) * b ≤ 140737488355 * 1000 := Nat.mul_le_mul h hb
    _ ≤ _ := by omega
theorem specKey {N : Nat} {l : List Rel} {f : Fact} (hl : l.length ≤ 1048576) (hf : f.2.length ≤ 1048576) (hN : 1048576 < N) (hv : validRels l = true) (h1 : fact1 l f = true) : spec_KeyOf N l f = some (keyOf l f) := by
  have g := goodFact hv h1
  have e : (at_ (⟨#[]⟩, 0, 0) l f.1).2.2 = keyLen l f := rfl
  unfold spec_KeyOf
  rw [specFact hl hf hN, hv, h1, Option.bind_some, inb_int g.lo g.hi, grd_true]
  simp only [Bool.and_self, Bool.not_true, cond_false, e]
  rw [subOk_true (by omega) g.k0 g.k1, grd_true, appOk_lt (by omega) (by simp only [List.length_nil, List.length_take]; omega), grd_true]
  rfl
theorem specSame {N : Nat} {l : List Rel} {a b : Fact} (hl : l.length ≤ 1048576) (ha : a.2.length ≤ 1048576) (hb : b.2.length ≤ 1048576) (hN : 1048576 < N) (hv : validRels l = true) (h1 : fact1 l a = true) (h2 : fact1 l b = true) : spec_HaveSameKey N l a b = some (sameK l a b) := by
  unfold spec_HaveSameKey sameK
  rw [specFact hl ha hN, specFact hl hb hN, hv, h1, h2]
  simp only [Bool.and_self, Option.bind_some, cond_true, beqI]
  by_cases h : a.1 = b.1
  · rw [decide_eq_true h, cond_true, specKey hl ha hN hv h1, specKey hl hb hN hv h2, Option.bind_some, Option.bind_some,
      specInts (by unfold keyOf; rw [List.length_take]; omega) (by unfold keyOf; rw [List.length_take]; omega) hN, Option.bind_some, Bool.true_and]
    congr 1
    exact decide_eq_decide.2 (cmpInts_eq _ _)
  · rw [decide_eq_false h]; rfl
theorem implSame {N : Nat} {l : List Rel} {a b : Fact} (ha : a.2.length ≤ 1048576) (hb : b.2.length ≤ 1048576) (hN : 1048576 < N) (hv : validRels l = true) (h1 : fact1 l a = true) (h2 : fact1 l b = true) : impl_sameKey N l a b = some (sameK l a b) := by
  have g := goodFact hv h1
  have g' := goodFact hv h2
  have e : (at_ (⟨#[]⟩, 0, 0) l a.1).2.2 = keyLen l a := rfl
  unfold impl_sameKey sameK
  rw [bneI]
  by_cases h : a.1 = b.1
  · have hk : keyLen l a = keyLen l b := by unfold keyLen; rw [h]
    rw [decide_eq_true h, Bool.not_true, cond_false, inb_int g.lo g.hi, grd_true, e]
    rw [subOk_true (by omega) g.k0 g.k1, grd_true, subOk_true (by omega) g.k0 (by have := g'.k1; rw [← hk] at this; exact this), grd_true, implEqual (by rw [List.length_take]; omega) hN, Option.bind_some, Bool.true_and]
    unfold keyOf
    rw [← hk]
  · rw [decide_eq_false h]; rfl

def sameD (d : Db) (i k : Nat) : Bool := sameK d.1 (factAt d i) (factAt d k)
structure ValidDb (d : Db) : Prop where
  rels : validRels d.1 = true
  few : d.2.length ≤ 14
  fact : ∀ j, j < d.2.length → fact1 d.1 (factAt d j) = true
  lt : ∀ i k, i < k → k < d.2.length → cmpFacts (factAt d i) (factAt d k) < 0
theorem validDb_of {d : Db} (h : validDb d = true) : ValidDb d := by
  unfold validDb at h
  rw [Bool.and_eq_true, Bool.and_eq_true, decide_eq_true_eq, decide_eq_true_eq] at h
  obtain ⟨h1, h2, h3⟩ := h
  refine ⟨h1, h2, fun j hj => ?_, ?_⟩
  · have := h3 j hj
    rw [Bool.and_eq_true] at this
    exact this.1
  · have step : ∀ j, 0 < j → j < d.2.length → cmpFacts (factAt d (j - 1)) (factAt d j) < 0 := by
      intro j h0 hj
      have := h3 j hj
      rw [Bool.and_eq_true, Bool.or_eq_true, decide_eq_true_eq, decide_eq_true_eq] at this
      rcases this.2 with h | h
      · omega
      · exact h
    intro i k
    induction k with
    | zero => intro h; omega
    | succ k ih =>
      intro hik hk
      have hs := step (k + 1) (by omega) hk
      rw [Nat.add_sub_cancel] at hs
      by_cases h : i = k
      · subst h; exact hs
      · exact cmpFacts_trans (ih (by omega) (by omega)) hs
theorem runs {d : Db} (h : ValidDb d) : Runs (sameD d) d.2.length := by
  refine ⟨fun i => by simp [sameD, sameK], fun i k hs => ?_, fun i j k h1 h2 => ?_, fun i j k hij hjk hk hs => ?_⟩
  · simp only [sameD, sameK, Bool.and_eq_true, decide_eq_true_eq] at hs ⊢
    exact ⟨hs.1.symm, hs.2.symm⟩
  · simp only [sameD, sameK, Bool.and_eq_true, decide_eq_true_eq] at h1 h2 ⊢
    exact ⟨h1.1.trans h2.1, h1.2.trans h2.2⟩
  · by_cases e1 : i = j
    · subst e1; simp [sameD, sameK]
    · by_cases e2 : j = k
      · subst e2; exact hs
      · have l1 := h.lt i j (by omega) (by omega)
        have l2 := h.lt j k (by omega) hk
        have g1 := goodFact h.rels (h.fact i (by omega))
        have g2 := goodFact h.rels (h.fact j (by omega))
        have g3 := goodFact h.rels (h.fact k hk)
        simp only [sameD, sameK, Bool.and_eq_true, decide_eq_true_eq] at hs ⊢
        obtain ⟨s1, s2⟩ := hs
        generalize factAt d i = a at *
        generalize factAt d j = b at *
        generalize factAt d k = c at *
        have hab : a.1 = b.1 := by
          unfold cmpFacts at l1 l2
          by_cases q1 : a.1 < b.1
          · have : b.1 > c.1 := by omega
            rw [if_neg (by omega), if_pos this] at l2; omega
          · rw [if_neg q1] at l1
            split at l1
            · omega
            · omega
        have hbc : b.1 = c.1 := by omega
        have c1 : cmpInts a.2 b.2 < 0 := by unfold cmpFacts at l1; rw [if_neg (by omega), if_neg (by omega)] at l1; exact l1
        have c2 : cmpInts b.2 c.2 < 0 := by unfold cmpFacts at l2; rw [if_neg (by omega), if_neg (by omega)] at l2; exact l2
        have k1 : keyLen d.1 a = keyLen d.1 b := by unfold keyLen; rw [hab]
        have k2 : keyLen d.1 b = keyLen d.1 c := by unfold keyLen; rw [hbc]
        have n1 := g1.len
        have n2 := g2.len
        have n3 := g3.len
        rw [hab] at n1
        rw [hbc] at n1 n2
        unfold keyOf at s2 ⊢
        rw [← k2, ← k1] at s2
        rw [← k1]
        exact ⟨hab, cmp_take _ _ _ _ c1 c2 s2 (by omega) (by omega)⟩
end Go.PL
namespace Go.PL
set_option linter.unusedVariables false
def toI (l : List Nat) : List Int := l.map fun (n : Nat) => (n : Int)
theorem toI_length (l : List Nat) : (toI l).length = l.length := by simp [toI]
theorem toI_append (a b : List Nat) : toI (a ++ b) = toI a ++ toI b := by simp [toI]
theorem blk_length (S : Nat → Nat → Bool) (n s : Nat) : (blk S n s).length ≤ n := by
  unfold blk
  exact Nat.le_trans (List.length_filter_le _ _) (Nat.le_of_eq List.length_range)
theorem sts_length (S : Nat → Nat → Bool) (n : Nat) : (sts S n).length ≤ n := by
  unfold sts
  exact Nat.le_trans (List.length_filter_le _ _) (Nat.le_of_eq List.length_range)
theorem B_len (S : Nat → Nat → Bool) (n : Nat) : (B S n).length ≤ n := by
  unfold B; rw [List.length_map]; exact sts_length S n
theorem fact_at {d : Db} {k : Nat} (hk : k < d.2.length) : at_ (0, []) d.2 (k : Int) = factAt d k := by unfold factAt; rw [at_lt hk, getD_lt hk]
theorem fact_small {d : Db} (h : SmallDb d) {k : Nat} (hk : k < d.2.length) : (factAt d k).2.length ≤ 1048576 := by unfold factAt; rw [getD_lt hk]; exact h.vals _ (List.getElem_mem hk)

theorem specBlockOf {N : Nat} {d : Db} (h : SmallDb d) (hvb : validDb d = true) (hN : 1048576 < N) {i : Nat} (hi : i < d.2.length) : spec_BlockOf N d (i : Int) = some (toI (blk (sameD d) d.2.length i)) := by
  have hv := validDb_of hvb
  have hf := hv.few
  unfold spec_BlockOf spec_BlockOf_b
  have := loop (fun k (s : List Int × Nat) => spec_BlockOf_l0 N k (i : Int) d.1 d.2 s.1 (s.2 : Int)) (fun s => s.2 ≤ d.2.length ∧ s.1 = toI (blk (sameD d) s.2 i)) (fun s => d.2.length - s.2) (fun o => o = some (toI (blk (sameD d) d.2.length i))) (fun k s hs => by
    obtain ⟨out, j⟩ := s
    obtain ⟨h1, h2⟩ := hs
    simp only at h1 h2 ⊢
    by_cases hj : j < d.2.length
    · right
      have e1 : (j : Int) < (d.2.length : Int) := by omega
      have e2 : (0 : Int) ≤ (i : Int) ∧ (i : Int) ≤ (d.2.length : Int) - 1 := by omega
      have e3 : validDb (d.1, d.2) = true := hvb
      have hlen : out.length ≤ 14 := by rw [h2, toI_length]; have := blk_length (sameD d) j i; omega
      refine ⟨(toI (blk (sameD d) (j + 1) i), j + 1), ⟨hj, rfl⟩, by simp only; omega, ?_⟩
      simp only [spec_BlockOf_l0, spec_BlockOf_l0_b, e1, decide_true, cond_true, specDb (d := (d.1, d.2)) h hN, e3, Option.bind_some, l1In, w64_id (show -9223372036854775808 ≤ (d.2.length : Int) - 1 by omega) (by omega), e2, and_self, inb_lt hi, inb_lt hj, grd_true, fact_at hi, fact_at hj,
        specSame h.rels (fact_small h hi) (fact_small h hj) hN hv.rels (hv.fact i hi) (hv.fact j hj), w64_succ (show j < 4611686018427387904 by omega)]
      rw [blk_succ]
      cases hs : sameD d i j with
      | true =>
        have hs' : sameK d.1 (factAt d i) (factAt d j) = true := hs
        rw [hs', cond_true, appOk_lt (by omega) (by simp only [List.length_singleton]; omega), grd_true, if_pos rfl, toI_append, h2]; rfl
      | false =>
        have hs' : sameK d.1 (factAt d i) (factAt d j) = false := hs
        rw [hs', cond_false, if_neg (by simp), List.append_nil, h2]
    · left
      have : j = d.2.length := by omega
      subst this
      have e1 : ¬ (d.2.length : Int) < (d.2.length : Int) := by omega
      simp only [spec_BlockOf_l0, spec_BlockOf_l0_b, e1, decide_false, cond_false, h2]) N ([], 0) (by simp only; omega) ⟨by simp, by simp [blk, toI]⟩
  exact this

def blocksOf (d : Db) : List (List Int) := if validDb d then (B (sameD d) d.2.length).map toI else []
theorem specBlocks {N : Nat} {d : Db} (h : SmallDb d) (hN : 1048576 < N) : spec_Blocks N d = some (blocksOf d) := by
  have hfs := h.facts
  unfold spec_Blocks spec_Blocks_b blocksOf
  cases hvb : validDb d with
  | false =>
    simp only [Bool.false_eq_true, if_false]
    obtain ⟨n, rfl⟩ : ∃ n, N = n + 1 := ⟨N - 1, by omega⟩
    simp only [spec_Blocks_l0, spec_Blocks_l0_b, specDb (d := (d.1, d.2)) h hN, show validDb (d.1, d.2) = false from hvb, Option.bind_some, cond_false]
    cases decide ((0 : Int) < (d.2.length : Int)) <;> rfl
  | true =>
    simp only [if_true]
    have hv := validDb_of hvb
    have hf := hv.few
    have hR := runs hv
    have := loop (fun k (s : List (List Int) × Nat) => spec_Blocks_l0 N k d.1 d.2 s.1 (s.2 : Int)) (fun s => s.2 ≤ d.2.length ∧ s.1 = (((sts (sameD d) s.2).map (blk (sameD d) d.2.length)).map toI)) (fun s => d.2.length - s.2) (fun o => o = some ((B (sameD d) d.2.length).map toI)) (fun k s hs => by
      obtain ⟨out, j⟩ := s
      obtain ⟨h1, h2⟩ := hs
      simp only at h1 h2 ⊢
      by_cases hj : j < d.2.length
      · right
        have e1 : (j : Int) < (d.2.length : Int) := by omega
        have e3 : validDb (d.1, d.2) = true := hvb
        have hlen : out.length ≤ 14 := by rw [h2, List.length_map, List.length_map]; have := sts_length (sameD d) j; omega
        obtain ⟨q, r, b1, b2, b3⟩ := blk_head (hR.refl j) hj
        have e4 : toI (blk (sameD d) d.2.length j) = (q : Int) :: toI r := by rw [b1]; rfl
        have e5 : inb 0 (toI (blk (sameD d) d.2.length j)) = true := by rw [e4]; exact inb_lt (j := 0) (by simp)
        have e6 : at_ 0 (toI (blk (sameD d) d.2.length j)) 0 = (q : Int) := by rw [e4]; exact at_lt (j := 0) (by simp)
        refine ⟨((((sts (sameD d) (j + 1)).map (blk (sameD d) d.2.length)).map toI), j + 1), ⟨hj, rfl⟩, by simp only; omega, ?_⟩
        simp only [spec_Blocks_l0, spec_Blocks_l0_b, e1, decide_true, cond_true, specDb (d := (d.1, d.2)) h hN, e3, Option.bind_some, specBlockOf (d := (d.1, d.2)) h hvb hN (show j < (d.1, d.2).2.length from hj), w64_succ (show j < 4611686018427387904 by omega)]
        rw [show sameD (d.1, d.2) = sameD d from rfl, e5, grd_true, e6, beqI, sts_succ]
        by_cases hst : isSt (sameD d) j = true
        · have hq := b3.2 hst
          rw [if_pos hst, decide_eq_true (by rw [hq]), cond_true, appOk_lt (by omega) (by simp only [List.length_singleton]; omega), grd_true, List.map_append, List.map_append, ← h2]; rfl
        · have hq : ¬ (q : Int) = (j : Int) := fun hc => hst (b3.1 (by omega))
          rw [if_neg hst, decide_eq_false hq, cond_false, List.append_nil, ← h2]
      · left
        have : j = d.2.length := by omega
        subst this
        have e1 : ¬ (d.2.length : Int) < (d.2.length : Int) := by omega
        simp only [spec_Blocks_l0, spec_Blocks_l0_b, e1, decide_false, cond_false, h2]
        rfl) N ([], 0) (by simp only; omega) ⟨by simp, by simp [sts]⟩
    exact this
theorem implBlk {N : Nat} {d : Db} (h : SmallDb d) (hvb : validDb d = true) (hN : 1048576 < N) : impl_blocks N d = some (blocksOf d) := by
  unfold blocksOf
  rw [if_pos hvb]
  · have hv := validDb_of hvb
    have hf := hv.few
    have hR := runs hv
    unfold impl_blocks impl_blocks_b
    have := loop (fun k (s : List (List Int) × Nat) => impl_blocks_l0 N k d.1 d.2 s.1 d.2 (d.2.length : Int) (s.2 : Int)) (fun s => s.2 ≤ d.2.length ∧ s.1 = (B (sameD d) s.2).map toI) (fun s => d.2.length - s.2) (fun o => o = some ((B (sameD d) d.2.length).map toI)) (fun k s hs => by
      obtain ⟨out, j⟩ := s
      obtain ⟨h1, h2⟩ := hs
      simp only at h1 h2 ⊢
      by_cases hj : j < d.2.length
      · right
        have e1 : (j : Int) < (d.2.length : Int) := by omega
        have hlen : out.length ≤ 14 := by rw [h2, List.length_map]; have := B_len (sameD d) j; omega
        refine ⟨((B (sameD d) (j + 1)).map toI, j + 1), ⟨hj, rfl⟩, by simp only; omega, ?_⟩
        simp only [impl_blocks_l0, impl_blocks_l0_b, e1, decide_true, cond_true, inb_lt hj, grd_true, w64_succ (show j < 4611686018427387904 by omega)]
        rw [w64_id (show -9223372036854775808 ≤ (out.length : Int) - 1 by omega) (by omega)]
        have new : isSt (sameD d) j = true → grd (appOk out [[(j : Int)]] 24) (impl_blocks_l0 N k d.1 d.2 (out ++ [[(j : Int)]]) d.2 (d.2.length : Int) ((j + 1 : Nat) : Int)) = impl_blocks_l0 N k d.1 d.2 ((B (sameD d) (j + 1)).map toI) d.2 (d.2.length : Int) ((j + 1 : Nat) : Int) := fun hst => by
          rw [appOk_lt (by omega) (by simp only [List.length_singleton]; omega), grd_true, B_new hR hst, List.map_append, ← h2]; rfl
        by_cases h0 : j = 0
        · subst h0
          have ho : out = [] := by rw [h2]; rfl
          have hn : ¬ (out.length : Int) - 1 ≥ 0 := by rw [ho]; simp
          rw [decide_eq_false hn, cond_false]
          exact new (isSt_iff.2 (fun k hk => by omega))
        · obtain ⟨A, t, a1, a2, a3, a4⟩ := last_start hR j (by omega) (by omega)
          obtain ⟨q, r, b1, b2, b3⟩ := blk_head (hR.refl t) a2
          have hq : q = t := b3.2 a3
          subst hq
          have hout : out = ((A.map (blk (sameD d) j)).map toI) ++ [toI (blk (sameD d) j q)] := by
            rw [h2]; unfold B; rw [a1, List.map_append, List.map_append]; rfl
          generalize hX : (A.map (blk (sameD d) j)).map toI = X at hout
          have hl : (out.length : Int) - 1 = (X.length : Int) := by rw [hout]; simp
          have hXl : X.length < out.length := by rw [hout]; simp
          have hat : at_ [] out (X.length : Int) = toI (blk (sameD d) j q) := by
            rw [at_lt hXl]
            simp only [hout]
            rw [List.getElem_append_right (by omega)]
            simp
          have e4 : toI (blk (sameD d) j q) = (q : Int) :: toI r := by rw [b1]; rfl
          have e5 : inb 0 (toI (blk (sameD d) j q)) = true := by rw [e4]; exact inb_lt (j := 0) (by simp)
          have e6 : at_ 0 (toI (blk (sameD d) j q)) 0 = (q : Int) := by rw [e4]; exact at_lt (j := 0) (by simp)
          have hql : q < d.2.length := by omega
          rw [hl, decide_eq_true (show (X.length : Int) ≥ 0 by omega), cond_true, inb_lt hXl, grd_true, hat, e5, grd_true, e6, inb_lt hql, grd_true, fact_at hql, fact_at hj,
            implSame (fact_small h hql) (fact_small h hj) hN hv.rels (hv.fact q hql) (hv.fact j hj), Option.bind_some]
          cases hs : sameD d q j with
          | true =>
            have hs' : sameK d.1 (factAt d q) (factAt d j) = true := hs
            have hns : ¬ isSt (sameD d) j = true := fun hc => by
              have := isSt_iff.1 hc q a2
              rw [hR.symm _ _ hs] at this; simp at this
            have hbl := blk_length (sameD d) j q
            have hgrow : growOk (X.length : Int) (X.length : Int) out = true := by unfold growOk; rw [decide_eq_true rfl, decide_eq_true (show (0 : Int) ≤ X.length by omega), decide_eq_true (show (X.length : Int) < (out.length : Int) by omega)]; rfl
            rw [hs', cond_true, grd_true, grd_true, appOk_lt (by omega) (by rw [toI_length]; simp only [List.length_singleton]; omega), grd_true, grd_true, hgrow, grd_true, letv_eq]
            congr 1
            rw [B_old hR hns hj a1 hs, List.map_append, hX, hout, Int.toNat_natCast, List.set_append_right _ _ (by omega), Nat.sub_self]
            simp [toI]
          | false =>
            have hs' : sameK d.1 (factAt d q) (factAt d j) = false := hs
            rw [hs', cond_false]
            refine new (isSt_iff.2 (fun k hk => ?_))
            rw [Bool.eq_false_iff]
            intro hc
            have c1 := hR.symm _ _ hc
            have c2 := hR.run k (j - 1) j (by omega) (by omega) (by omega) c1
            have c3 := hR.trans _ _ _ (hR.symm _ _ c2) c1
            have c4 := hR.trans _ _ _ (a4 (j - 1) (by omega) (by omega)) c3
            rw [hs] at c4; simp at c4
      · left
        have : j = d.2.length := by omega
        subst this
        have e1 : ¬ (d.2.length : Int) < (d.2.length : Int) := by omega
        simp only [impl_blocks_l0, impl_blocks_l0_b, e1, decide_false, cond_false, h2]) N ([], 0) (by simp only; have := h.facts; omega) ⟨by simp, by simp [B, sts]⟩
    have this : impl_blocks_l0 N N d.1 d.2 [] d.2 (d.2.length : Int) 0 = some ((B (sameD d) d.2.length).map toI) := this
    exact this
end Go.PL
namespace Go.PL
set_option linter.unusedVariables false
def sizes (d : Db) : List Nat := (blocksOf d).map List.length
theorem sizes_valid {d : Db} (hvb : validDb d = true) : (sizes d).sum = d.2.length ∧ (∀ x ∈ sizes d, 1 ≤ x) ∧ (sizes d).length ≤ 14 ∧ (blocksOf d).length = (sizes d).length := by
  have hv := validDb_of hvb
  have hR := runs hv
  have e : sizes d = (B (sameD d) d.2.length).map List.length := by
    unfold sizes blocksOf
    rw [if_pos hvb, List.map_map]
    apply List.map_congr_left
    intro x _
    exact toI_length x
  refine ⟨by rw [e]; exact B_length hR _ (Nat.le_refl _), ?_, ?_, by unfold sizes; simp⟩
  · rw [e]
    intro x hx
    obtain ⟨b, hb, rfl⟩ := List.mem_map.1 hx
    unfold B at hb
    obtain ⟨s, hs, rfl⟩ := List.mem_map.1 hb
    obtain ⟨q, r, b1, _⟩ := blk_head (hR.refl s) (mem_sts.1 hs).1
    rw [b1]; simp
  · rw [e, List.length_map]
    have := B_len (sameD d) d.2.length
    have := hv.few
    omega
theorem mem_sum : ∀ {a : List Nat} {x : Nat}, x ∈ a → x ≤ a.sum
  | y :: a, x, h => by
    rw [List.sum_cons]
    rcases List.mem_cons.1 h with rfl | h
    · omega
    · have := mem_sum h; omega

end Go.PL
namespace Go.PL
set_option linter.unusedVariables false
theorem B_flat {S : Nat → Nat → Bool} {N : Nat} (hS : Runs S N) : ∀ n, n ≤ N → (B S n).flatten = List.range n
  | 0, _ => by simp [B, sts]
  | n + 1, hn => by
    by_cases h : isSt S n = true
    · rw [B_new hS h, List.flatten_append, B_flat hS n (by omega), List.range_succ]; simp
    · have hn0 : 0 < n := by
        apply Decidable.byContradiction
        intro h0
        have : n = 0 := by omega
        subst this
        apply h
        rw [isSt_iff]; intro k hk; omega
      obtain ⟨A, t, e, h1, h2, h3⟩ := last_start hS (n + 1) (by omega) hn
      have e' : sts S n = A ++ [t] := by rw [sts_succ, if_neg h, List.append_nil] at e; exact e
      have ih := B_flat hS n (by omega)
      rw [B_old hS h (by omega) e' (h3 n (by omega) (by omega)), List.range_succ, ← ih]
      unfold B
      rw [e']
      simp only [List.map_append, List.map_cons, List.map_nil, List.flatten_append, List.flatten_cons, List.flatten_nil, List.append_nil, List.append_assoc]
end Go.PL
namespace Go.PL
set_option linter.unusedVariables false
end Go.PL
namespace Go.PL
set_option linter.unusedVariables false
end Go.PL
namespace Go.PL
set_option linter.unusedVariables false
end Go.PL
namespace Go.PL
set_option linter.unusedVariables false
def one (p : Int → Bool) (x : Int) : Int := if p x then 1 else 0
theorem blocks_ne {d : Db} (hvb : validDb d = true) : ∀ b ∈ blocksOf d, b ≠ [] ∧ b.length ≤ 14 := by
  intro b hb
  obtain ⟨s1, s2, s3, s4⟩ := sizes_valid hvb
  have hm : b.length ∈ sizes d := List.mem_map.2 ⟨_, hb, rfl⟩
  have h1 := s2 _ hm
  have h2 := mem_sum hm
  have hf := (validDb_of hvb).few
  exact ⟨fun h => by rw [h] at h1; simp at h1, by omega⟩
theorem blocks_in' {d : Db} (hvb : validDb d = true) : ∀ b ∈ blocksOf d, ∀ x ∈ b, 0 ≤ x ∧ x < (d.2.length : Int) := by
  intro b hb x hx
  unfold blocksOf at hb
  rw [if_pos hvb] at hb
  obtain ⟨b', hb', rfl⟩ := List.mem_map.1 hb
  unfold B at hb'
  obtain ⟨s, hs, rfl⟩ := List.mem_map.1 hb'
  unfold toI at hx
  obtain ⟨k, hk, rfl⟩ := List.mem_map.1 hx
  have := List.mem_range.1 (List.mem_filter.1 hk).1
  omega
end Go.PL
namespace Go.PL
set_option linter.unusedVariables false
end Go.PL
namespace Go.PL
set_option linter.unusedVariables false
set_option linter.unusedSimpArgs false
def in_int (x : Int) : Prop := IntKind.min .i64 ≤ x ∧ x ≤ IntKind.max .i64
def in_str (x : ByteArray) : Prop := x.size ≤ 9223372036854775807
def s_str (x : ByteArray) : Nat := x.size
def b_str (x : ByteArray) : Prop := x.size ≤ 1048576
theorem b_of_str {x : ByteArray} (h : s_str x ≤ 1048576) : b_str x := h
theorem bneB (a b : Bool) : (a != b) = !decide (a = b) := by cases a <;> cases b <;> rfl
theorem beqB (a b : Bool) : (a == b) = decide (a = b) := by cases a <;> cases b <;> rfl
theorem list_eq_iff' {α : Type} [DecidableEq α] {a b : List α} (h : a.length = b.length) : (a = b) ↔ ∀ j, j < a.length → (decide (a[j]? = b[j]?)) = true := by
  constructor
  · rintro rfl j _; simp
  · intro h2
    apply List.ext_getElem?
    intro j
    by_cases hj : j < a.length
    · simpa using h2 j hj
    · rw [List.getElem?_eq_none (by omega), List.getElem?_eq_none (by omega)]
/-- How much of what is left is taken. -/
def sub1 (l : Int) (s : Nat) : Int := if (s : Int) ≤ l then l - s else -1
theorem sub1_pos {l : Int} {s : Nat} (h : (s : Int) ≤ l) : sub1 l s = l - s := if_pos h
theorem sub1_neg {l : Int} {s : Nat} (h : ¬ (s : Int) ≤ l) : sub1 l s = -1 := if_neg h
def sumL {α : Type} (s : α → Nat) (a : List α) : Nat := a.length + (a.map s).sum
theorem sumL_len {α : Type} {s : α → Nat} {a : List α} {m : Nat} (h : sumL s a ≤ m) : a.length ≤ m := Nat.le_trans (Nat.le_add_right _ _) h
theorem sum_mem {α : Type} {s : α → Nat} : ∀ {a : List α} {y : α}, y ∈ a → s y ≤ (a.map s).sum
  | [], y, h => by simp at h
  | x :: a, y, h => by
    rcases List.mem_cons.1 h with rfl | h
    · simp
    · have := sum_mem (s := s) h
      simp only [List.map_cons, List.sum_cons]; omega
theorem sumL_mem {α : Type} {s : α → Nat} {a : List α} {y : α} (h : y ∈ a) : s y ≤ sumL s a := Nat.le_trans (sum_mem h) (Nat.le_add_left _ _)
/-- A loop that takes from what is left. -/
theorem szL {α : Type} {a : List α} {s : α → Nat} {g : α → Int → Option Int} {f : Nat → Int → Int → Option Int} (hg : ∀ x ∈ a, ∀ l : Int, 0 ≤ l → l ≤ 1048576 → g x l = some (sub1 l (s x)))
    (hend : ∀ k l, f (k + 1) l (a.length : Int) = some l) (hstep : ∀ k l j (h : j < a.length), f (k + 1) l (j : Int) = (g a[j] l).bind fun r => bif decide (r < 0) then some (-1) else f k r ((j + 1 : Nat) : Int))
    {k : Nat} (hk : a.length < k) {l : Int} (h0 : 0 ≤ l) (h1 : l ≤ 1048576) : f k l 0 = some (sub1 l ((a.map s).sum)) := by
  have := loop (fun k (q : Int × Nat) => f k q.1 (q.2 : Int)) (fun q => 0 ≤ q.1 ∧ q.1 ≤ 1048576 ∧ q.2 ≤ a.length ∧ sub1 q.1 (((a.drop q.2).map s).sum) = sub1 l ((a.map s).sum)) (fun q => a.length - q.2) (fun o => o = some (sub1 l ((a.map s).sum))) (fun k q hs => by
    obtain ⟨v, j⟩ := q
    obtain ⟨g0, g1, g2, g3⟩ := hs
    simp only at g0 g1 g2 g3 ⊢
    by_cases hj : j < a.length
    · rw [hstep k v j hj, hg a[j] (List.getElem_mem hj) v g0 g1, Option.bind_some]
      rw [List.drop_eq_getElem_cons hj, List.map_cons, List.sum_cons] at g3
      by_cases hc : (s a[j] : Int) ≤ v
      · right
        refine ⟨(v - s a[j], j + 1), ⟨by simp only; omega, by simp only; omega, hj, ?_⟩, by simp only; omega, ?_⟩
        · rw [← g3]; simp only [sub1]; split <;> split <;> omega
        · rw [sub1_pos hc, decide_eq_false (by omega), cond_false]
      · left
        rw [sub1_neg hc, decide_eq_true (by omega), cond_true]
        rw [← g3, sub1_neg (by omega)]
    · left
      have : j = a.length := by omega
      subst this
      rw [hend]
      rw [List.drop_length] at g3
      rw [← g3]; simp [sub1, g0]) k (l, 0) (by simpa using hk) ⟨h0, h1, by simp, by simp⟩
  exact this
def mkL {α : Type} (c : α → Nat) (mv : α → Int → α) : List α → Int → List α
  | [], _ => []
  | x :: r, k => mv x k :: mkL c mv r (k + (c x : Int))
def costL {α : Type} (c : α → Nat) (a : List α) : Nat := (a.map c).sum
theorem costL_le {α : Type} {c : α → Nat} (h : ∀ x, c x ≤ 8) : ∀ a : List α, costL c a ≤ 8 * a.length
  | [] => by simp [costL]
  | x :: a => by
    have h1 := h x
    have h2 := costL_le h a
    simp only [costL, List.map_cons, List.sum_cons, List.length_cons] at h2 ⊢; omega
theorem costL_les {α : Type} {c s : α → Nat} (h : ∀ x, c x ≤ 8 + 8 * s x) : ∀ a : List α, costL c a ≤ 8 * sumL s a
  | [] => by simp [costL, sumL]
  | x :: a => by
    have h1 := h x
    have h2 := costL_les h a
    simp only [costL, sumL, List.map_cons, List.sum_cons, List.length_cons] at h2 ⊢; omega
theorem mkL_length {α : Type} (c : α → Nat) (mv : α → Int → α) : ∀ (a : List α) (k : Int), (mkL c mv a k).length = a.length
  | [], k => rfl
  | x :: a, k => by simp [mkL, mkL_length c mv a]
theorem inb_set {α : Type} {xs : List α} {j : Nat} {v : α} {i : Int} : inb i (xs.set j v) = inb i xs := by simp [inb]
theorem at_set {α : Type} {d : α} {xs : List α} {j : Nat} {v : α} (h : j < xs.length) : at_ d (xs.set j v) (j : Int) = v := by simp [at_, h]
theorem set_set {α : Type} {xs : List α} {j : Nat} {a b : α} : (xs.set j a).set j b = xs.set j b := by simp
theorem w64_ok {x : Int} (h0 : 0 ≤ x) (h1 : x ≤ 4611686018427387904) : w64 x = x := w64_id (by omega) (by omega)
theorem not_neg {x : Int} (h : 0 ≤ x) : decide (x < 0) = false := decide_eq_false (by omega)
/-- A loop that marks. -/
theorem markL {α : Type} {c : α → Nat} {mv : α → Int → α} {P : α → Prop} {f : Nat → List α → Int → Int → Option (List α × Int)}
    (hend : ∀ k a2 k2 (j : Nat), j = a2.length → f (k + 1) a2 k2 (j : Int) = some (a2, k2))
    (hstep : ∀ k a2 k2 (j : Nat) (h : j < a2.length), P a2[j] → 0 ≤ k2 → k2 + (c a2[j] : Int) ≤ 4611686018427387904 → j < 1048576 → f (k + 1) a2 k2 (j : Int) = f k (a2.set j (mv a2[j] k2)) (k2 + (c a2[j] : Int)) ((j + 1 : Nat) : Int))
    {a : List α} (hP : ∀ y ∈ a, P y) {k0 : Int} (h0 : 0 ≤ k0) (h1 : k0 + (costL c a : Int) ≤ 4611686018427387904) (hl : a.length ≤ 1048576) {k : Nat} (hk : a.length < k) : f k a k0 0 = some (mkL c mv a k0, k0 + (costL c a : Int)) := by
  have := loop (fun k (q : List α × Int × Nat) => f k q.1 q.2.1 (q.2.2 : Int)) (fun q => ∃ done, q.1 = done ++ a.drop q.2.2 ∧ done.length = q.2.2 ∧ q.2.2 ≤ a.length ∧ done ++ mkL c mv (a.drop q.2.2) q.2.1 = mkL c mv a k0 ∧ q.2.1 + (costL c (a.drop q.2.2) : Int) = k0 + (costL c a : Int) ∧ 0 ≤ q.2.1) (fun q => a.length - q.2.2) (fun o => o = some (mkL c mv a k0, k0 + (costL c a : Int))) (fun k q hs => by
    obtain ⟨a2, k2, j⟩ := q
    obtain ⟨done, g1, g2, g3, g4, g5, g6⟩ := hs
    simp only at g1 g2 g3 g4 g5 g6 ⊢
    by_cases hj : j < a.length
    · right
      rw [List.drop_eq_getElem_cons hj] at g1 g4 g5
      have hj2 : j < a2.length := by rw [g1]; simp; omega
      have ha2 : a2[j] = a[j] := by
        have : a2[j]? = some a[j] := by rw [g1, List.getElem?_append_right (by omega), g2]; simp
        rw [List.getElem?_eq_getElem hj2] at this
        exact Option.some.inj this
      simp only [costL, List.map_cons, List.sum_cons, Int.natCast_add] at g5
      have hcost : 0 ≤ (((a.drop (j + 1)).map c).sum : Int) := by omega
      refine ⟨(a2.set j (mv a2[j] k2), k2 + (c a2[j] : Int), j + 1), ⟨done ++ [mv a[j] k2], ?_, by simp [g2], hj, ?_, ?_, by simp only; omega⟩, by simp only; omega, ?_⟩
      · simp only
        rw [ha2, g1, List.set_append_right _ _ (by omega), g2, Nat.sub_self, List.set_cons_zero, List.append_assoc]
        rfl
      · simp only [ha2]
        rw [← g4]; simp [mkL]
      · rw [ha2]; simp only [costL] at g5 ⊢; omega
      · exact hstep k a2 k2 j hj2 (by rw [ha2]; exact hP _ (List.getElem_mem hj)) g6 (by rw [ha2]; simp only [costL] at g5 h1 ⊢; omega) (by omega)
    · left
      have hja : j = a.length := by omega
      subst hja
      rw [List.drop_length] at g1 g4 g5
      rw [hend k a2 k2 a.length (by rw [g1]; simp [g2])]
      simp only [mkL, List.append_nil] at g1 g4
      simp only [costL, List.map_nil, List.sum_nil] at g5
      rw [g1, g4]
      simp only [costL] at g5 ⊢
      congr 2; omega) k (a, k0, 0) (by simpa using hk) ⟨[], by simp, rfl, by simp, by simp, by simp, h0⟩
  exact this
/-- A loop that looks for the marks. -/
theorem heldL {α : Type} {c : α → Nat} {mv : α → Int → α} {P : α → Prop} {f : Nat → List α → Int → Int → Option Int}
    (hend : ∀ k a2 k2 (j : Nat), j = a2.length → f (k + 1) a2 k2 (j : Int) = some k2)
    (hstep : ∀ k a2 k2 (j : Nat) (y : α) (h : j < a2.length), P y → 0 ≤ k2 → k2 + (c y : Int) ≤ 4611686018427387904 → j < 1048576 → a2[j] = mv y k2 → f (k + 1) a2 k2 (j : Int) = f k a2 (k2 + (c y : Int)) ((j + 1 : Nat) : Int))
    {a : List α} (hP : ∀ y ∈ a, P y) {k0 : Int} (h0 : 0 ≤ k0) (h1 : k0 + (costL c a : Int) ≤ 4611686018427387904) (hl : a.length ≤ 1048576) {k : Nat} (hk : a.length < k) : f k (mkL c mv a k0) k0 0 = some (k0 + (costL c a : Int)) := by
  have hlen := mkL_length c mv a k0
  have := loop (fun k (q : Int × Nat) => f k (mkL c mv a k0) q.1 (q.2 : Int)) (fun q => q.2 ≤ a.length ∧ (mkL c mv a k0).drop q.2 = mkL c mv (a.drop q.2) q.1 ∧ q.1 + (costL c (a.drop q.2) : Int) = k0 + (costL c a : Int) ∧ 0 ≤ q.1) (fun q => a.length - q.2) (fun o => o = some (k0 + (costL c a : Int))) (fun k q hs => by
    obtain ⟨k2, j⟩ := q
    obtain ⟨g3, g4, g5, g6⟩ := hs
    simp only at g3 g4 g5 g6 ⊢
    by_cases hj : j < a.length
    · right
      have hj2 : j < (mkL c mv a k0).length := by omega
      rw [List.drop_eq_getElem_cons hj2, List.drop_eq_getElem_cons hj] at g4
      simp only [mkL, List.cons.injEq] at g4
      rw [List.drop_eq_getElem_cons hj] at g5
      simp only [costL, List.map_cons, List.sum_cons, Int.natCast_add] at g5
      have hcost : 0 ≤ (((a.drop (j + 1)).map c).sum : Int) := by omega
      refine ⟨(k2 + (c a[j] : Int), j + 1), ⟨hj, g4.2, ?_, by simp only; omega⟩, by simp only; omega, ?_⟩
      · simp only [costL] at g5 ⊢; omega
      · exact hstep k _ k2 j a[j] hj2 (hP _ (List.getElem_mem hj)) g6 (by simp only [costL] at g5 h1 ⊢; omega) (by omega) g4.1
    · left
      have hja : j = a.length := by omega
      subst hja
      rw [List.drop_length] at g5
      rw [hend k _ k2 a.length hlen.symm]
      simp only [costL, List.map_nil, List.sum_nil] at g5 ⊢
      congr 1; omega) k (k0, 0) (by simpa using hk) ⟨by simp, by simp, by simp, h0⟩
  exact this

theorem ofB1 (x : Int) : (ofBytes [x]).size = 1 := rfl
theorem markText_go {N : Nat} : ∀ (m : Nat) (k : Int) (out : ByteArray) (f : Nat), 0 ≤ k → k ≤ 9223372036854775807 → k < 10 ^ m → out.size + m ≤ 1000 → m < f → ∃ s, laws_markText_l0 N f k out = some s
  | 0, k, out, f, h0, hbig, h1, h2, h3 => by
    obtain ⟨f, rfl⟩ : ∃ f', f = f' + 1 := ⟨f - 1, by omega⟩
    have hk : ¬ k > 0 := by have : k < 1 := by simpa using h1
                            omega
    simp only [laws_markText_l0, laws_markText_l0_b, hk, decide_false, cond_false]
    have : catOk (⟨#[109]⟩ : ByteArray) out = true := decide_eq_true (by show 1 + out.size ≤ _; omega)
    rw [this, grd_true]
    exact ⟨_, rfl⟩
  | m + 1, k, out, f, h0, hbig, h1, h2, h3 => by
    obtain ⟨f, rfl⟩ : ∃ f', f = f' + 1 := ⟨f - 1, by omega⟩
    by_cases hk : k > 0
    · simp only [laws_markText_l0, laws_markText_l0_b, hk, decide_true, cond_true]
      have hc : ∀ x : Int, catOk (ofBytes [x]) out = true := fun x => decide_eq_true (by rw [ofB1]; omega)
      rw [grz_ne (by decide), hc, grd_true, grz_ne (by decide)]
      have hd0 : 0 ≤ k.tdiv 10 := Int.tdiv_nonneg h0 (by decide)
      have hp : (10 : Int) ^ (m + 1) = 10 ^ m * 10 := Int.pow_succ _ _
      have hd1 : k.tdiv 10 < 10 ^ m := by
        rw [Int.tdiv_eq_ediv_of_nonneg h0]
        have := Int.ediv_lt_of_lt_mul (a := k) (b := 10 ^ m) (c := 10) (by decide) (by rw [← hp]; exact h1)
        exact this
      have hle : k.tdiv 10 ≤ k := by rw [Int.tdiv_eq_ediv_of_nonneg h0]; exact Int.ediv_le_self _ h0
      rw [w64_id (by omega) (by omega)]
      exact markText_go m _ _ f hd0 (by omega) hd1 (by rw [ByteArray.size_append, ofB1]; omega) (by omega)
    · simp only [laws_markText_l0, laws_markText_l0_b, hk, decide_false, cond_false]
      have : catOk (⟨#[109]⟩ : ByteArray) out = true := decide_eq_true (by show 1 + out.size ≤ _; omega)
      rw [this, grd_true]
      exact ⟨_, rfl⟩
def mkTx (N : Nat) (k : Int) : ByteArray := (laws_markText N k).getD ⟨#[]⟩
def MtOk (N : Nat) : Prop := ∀ k : Int, 0 ≤ k → k ≤ 4611686018427387904 → laws_markText N k = some (mkTx N k)
theorem mt_ok {N : Nat} (h : MtOk N) {k : Int} (h0 : 0 ≤ k) (h1 : k ≤ 4611686018427387904) : laws_markText N k = some (mkTx N k) := h k h0 h1
theorem mtOk {N : Nat} (hN : 1048576 < N) : MtOk N := by
  intro k h0 h1
  have : ∃ s, laws_markText N k = some s := by
    unfold laws_markText laws_markText_b
    by_cases hk : k ≤ 0
    · exact ⟨_, by rw [decide_eq_true hk]; rfl⟩
    · rw [decide_eq_false hk, cond_false]
      exact markText_go 19 k _ N h0 (by omega) (by omega) (by decide) (by omega)
  obtain ⟨s, hs⟩ := this
  rw [mkTx, hs]; rfl
abbrev T_IntS := List Int
def in_IntS (a : T_IntS) : Prop := a.length ≤ 9223372036854775807 ∧ ∀ y ∈ a, in_int y
def s_IntS (a : T_IntS) : Nat := a.length
def b_IntS (a : T_IntS) : Prop := a.length ≤ 1048576
theorem b_of_IntS {a : T_IntS} (h : s_IntS a ≤ 1048576) : b_IntS a := h
theorem fto_IntS {N : Nat} {a : T_IntS} (h : b_IntS a) (hN : 1048576 < N) : laws_toIntS N a = some a := by
  have hl : a.length ≤ 1048576 := h
  unfold laws_toIntS laws_toIntS_b
  rw [makeOk_lt (by omega), grd_true]
  refine fill (b := a) (fun k out i => laws_toIntS_l0 N k a out i) (fun k out => by simp [laws_toIntS_l0, laws_toIntS_l0_b]) (fun k out j h1 h3 => ?_) (by omega) (by simp)
  have h2 : j < out.length := by omega
  have hj : (j : Int) < (a.length : Int) := by omega
  simp [laws_toIntS_l0, laws_toIntS_l0_b, hj, inb_lt h1, inb_lt h2, at_lt h1, w64_succ (show j < 4611686018427387904 by omega)]
theorem feq_IntS {N : Nat} {a b : T_IntS} (h : b_IntS a) (hN : 1048576 < N) : laws_eqIntS N a b = some (decide (a = b)) := by
  have hla : a.length ≤ 1048576 := h
  unfold laws_eqIntS laws_eqIntS_b
  by_cases hl : a.length = b.length
  · have h0 : ((a.length : Int) != (b.length : Int)) = false := by simp [hl]
    rw [h0, cond_false, decide_eq_decide.2 (list_eq_iff' hl)]
    refine every (n := a.length) (fun j => decide (a[j]? = b[j]?)) (fun k i => laws_eqIntS_l0 N k a b i) (fun k => by simp [laws_eqIntS_l0, laws_eqIntS_l0_b]) (fun k j hj => ?_) (by omega)
    have h1 : (j : Int) < (a.length : Int) := by omega
    have h2 : j < b.length := by omega
    simp only [laws_eqIntS_l0, laws_eqIntS_l0_b, h1, decide_true, cond_true, inb_lt hj, inb_lt h2, grd_true, at_lt hj, at_lt h2, bneI, ite_dec, w64_succ (show j < 4611686018427387904 by omega), List.getElem?_eq_getElem hj, List.getElem?_eq_getElem h2, Option.some.injEq]
  · have h0 : ((a.length : Int) != (b.length : Int)) = true := by simp; omega
    rw [h0, cond_true]
    have : a ≠ b := fun h => hl (by rw [h])
    simp [this]
theorem fsz_IntS {N : Nat} {a : T_IntS} {l : Int} (h : in_IntS a) (h0 : 0 ≤ l) (h1 : l ≤ 1048576) (hN : 1048576 < N) : laws_szIntS N a l = some (sub1 l (s_IntS a)) := by
  have := h.1
  unfold laws_szIntS s_IntS sub1
  rw [w64_id (by omega) (by omega)]
  by_cases h : (a.length : Int) ≤ l
  · rw [if_pos h, decide_eq_false (by omega)]; rfl
  · rw [if_neg h, decide_eq_true (by omega)]; rfl
def me_IntS (N : Nat) (x : Int) (k : Int) : Int := k
def ce_IntS (x : Int) : Nat := 1
def mk_IntS (N : Nat) (a : T_IntS) (k : Int) : T_IntS := mkL ce_IntS (me_IntS N) a k
def c_IntS (a : T_IntS) : Nat := costL ce_IntS a
theorem c_s_IntS (a : T_IntS) : c_IntS a ≤ 8 * s_IntS a := costL_le (c := ce_IntS) (fun x => by show 1 ≤ 8; omega) a
theorem fmk_IntS {N : Nat} {a : T_IntS} {k : Int} (h : b_IntS a) (h0 : 0 ≤ k) (h1 : k + (c_IntS a : Int) ≤ 4611686018427387904) (hN : 1048576 < N) : laws_markIntS N a k = some (mk_IntS N a k, k + (c_IntS a : Int)) := by
  have hla : a.length ≤ 1048576 := h
  unfold laws_markIntS laws_markIntS_b
  refine markL (P := fun y => True) (f := fun k a2 k2 i => laws_markIntS_l0 N k a2 k2 i) (fun k a2 k2 j hj => by subst hj; simp [laws_markIntS_l0, laws_markIntS_l0_b]) (fun k a2 k2 j h1 hy h0 hc hl => ?_) (fun _ _ => trivial) h0 h1 (by omega) (by omega)
  have h2 : (j : Int) < (a2.length : Int) := by omega
  simp only [ce_IntS, Int.natCast_add, Int.cast_ofNat_Int, Int.natCast_one] at hc
  simp (disch := first | assumption | omega) only [laws_markIntS_l0, laws_markIntS_l0_b, h2, decide_true, cond_true, inb_lt h1, inb_set, grd_true, grz_ne, letv_eq, at_lt h1, at_set, set_set, Int.toNat_natCast, w64_ok, w64_succ, Option.bind_some, Option.bind_some]
  simp only [ce_IntS, me_IntS, Int.natCast_add, Int.cast_ofNat_Int, Int.natCast_one, Int.add_assoc]
theorem fhd_IntS {N : Nat} {a : T_IntS} {k : Int} (h : b_IntS a) (h0 : 0 ≤ k) (h1 : k + (c_IntS a : Int) ≤ 4611686018427387904) (hN : 1048576 < N) : laws_heldIntS N (mk_IntS N a k) k = some (k + (c_IntS a : Int)) := by
  have hla : a.length ≤ 1048576 := h
  unfold laws_heldIntS laws_heldIntS_b
  refine heldL (P := fun y => True) (f := fun k a2 k2 i => laws_heldIntS_l0 N k a2 k2 i) (fun k a2 k2 j hj => by subst hj; simp [laws_heldIntS_l0, laws_heldIntS_l0_b]) (fun k a2 k2 j y h1 hy h0 hc hl he => ?_) (fun _ _ => trivial) h0 h1 (by omega) (by omega)
  have h2 : (j : Int) < (a2.length : Int) := by omega
  simp only [ce_IntS, Int.natCast_add, Int.cast_ofNat_Int, Int.natCast_one] at hc
  simp only [laws_heldIntS_l0, laws_heldIntS_l0_b, h2, decide_true, cond_true, inb_lt h1, grd_true, at_lt h1, he, me_IntS]
  simp (disch := first | assumption | omega) only [bneI, bneB, beqB, decide_true, Bool.not_true, cond_false, w64_ok, w64_succ, Option.bind_some, not_neg, grz_ne, Int.add_assoc, Option.bind_some]
  simp only [ce_IntS, Int.natCast_add, Int.cast_ofNat_Int, Int.natCast_one, Int.add_assoc]
abbrev T_Relation := ByteArray × Int × Int
def in_Relation (x : T_Relation) : Prop := in_str x.1 ∧ in_int x.2.1 ∧ in_int x.2.2
def s_Relation (x : T_Relation) : Nat := s_str x.1
def b_Relation (x : T_Relation) : Prop := b_str x.1
theorem b_of_Relation {x : T_Relation} (h : s_Relation x ≤ 1048576) : b_Relation x := b_of_str (by unfold s_Relation at h; omega)
theorem fto_Relation {N : Nat} {x : T_Relation} (h : b_Relation x) (hN : 1048576 < N) : laws_toRelation N x = some x := by
  simp [laws_toRelation]
theorem feq_Relation {N : Nat} {x y : T_Relation} (h : b_Relation x) (hN : 1048576 < N) : laws_eqRelation N x y = some (decide (x = y)) := by
  simp only [laws_eqRelation, bneI, bneB, beqB, seq_eq, Option.bind_some]
  obtain ⟨x0, x1, x2⟩ := x
  obtain ⟨y0, y1, y2⟩ := y
  simp only [Prod.mk.injEq]
  by_cases e0 : x0 = y0 <;>
  by_cases e1 : x1 = y1 <;>
  by_cases e2 : x2 = y2 <;> simp [e0, e1, e2]
theorem fsz_Relation {N : Nat} {x : T_Relation} {l : Int} (h : in_Relation x) (h0 : 0 ≤ l) (h1 : l ≤ 1048576) (hN : 1048576 < N) : laws_szRelation N x l = some (sub1 l (s_Relation x)) := by
  have : x.1.size ≤ 9223372036854775807 := h.1
  unfold laws_szRelation s_Relation s_str sub1
  rw [w64_id (by omega) (by omega)]
  by_cases h : (x.1.size : Int) ≤ l
  · rw [if_pos h, decide_eq_false (by omega)]; rfl
  · rw [if_neg h, decide_eq_true (by omega)]; rfl
abbrev T_RelationS := List T_Relation
def in_RelationS (a : T_RelationS) : Prop := a.length ≤ 9223372036854775807 ∧ ∀ y ∈ a, in_Relation y
def s_RelationS (a : T_RelationS) : Nat := sumL s_Relation a
def b_RelationS (a : T_RelationS) : Prop := a.length ≤ 1048576 ∧ ∀ y ∈ a, b_Relation y
theorem b_of_RelationS {a : T_RelationS} (h : s_RelationS a ≤ 1048576) : b_RelationS a := ⟨(sumL_len h), fun y hy => b_of_Relation (Nat.le_trans (sumL_mem hy) h)⟩
theorem fto_RelationS {N : Nat} {a : T_RelationS} (h : b_RelationS a) (hN : 1048576 < N) : laws_toRelationS N a = some a := by
  have hl : a.length ≤ 1048576 := h.1
  unfold laws_toRelationS laws_toRelationS_b
  rw [makeOk_lt (by omega), grd_true]
  refine fill (b := a) (fun k out i => laws_toRelationS_l0 N k a out i) (fun k out => by simp [laws_toRelationS_l0, laws_toRelationS_l0_b]) (fun k out j h1 h3 => ?_) (by omega) (by simp)
  have h2 : j < out.length := by omega
  have hj : (j : Int) < (a.length : Int) := by omega
  simp [laws_toRelationS_l0, laws_toRelationS_l0_b, hj, inb_lt h1, inb_lt h2, at_lt h1, fto_Relation (h.2 _ (List.getElem_mem h1)) hN, w64_succ (show j < 4611686018427387904 by omega)]
theorem feq_RelationS {N : Nat} {a b : T_RelationS} (h : b_RelationS a) (hN : 1048576 < N) : laws_eqRelationS N a b = some (decide (a = b)) := by
  have hla : a.length ≤ 1048576 := h.1
  unfold laws_eqRelationS laws_eqRelationS_b
  by_cases hl : a.length = b.length
  · have h0 : ((a.length : Int) != (b.length : Int)) = false := by simp [hl]
    rw [h0, cond_false, decide_eq_decide.2 (list_eq_iff' hl)]
    refine every (n := a.length) (fun j => decide (a[j]? = b[j]?)) (fun k i => laws_eqRelationS_l0 N k a b i) (fun k => by simp [laws_eqRelationS_l0, laws_eqRelationS_l0_b]) (fun k j hj => ?_) (by omega)
    have h1 : (j : Int) < (a.length : Int) := by omega
    have h2 : j < b.length := by omega
    simp only [laws_eqRelationS_l0, laws_eqRelationS_l0_b, h1, decide_true, cond_true, inb_lt hj, inb_lt h2, grd_true, at_lt hj, at_lt h2, feq_Relation (h.2 _ (List.getElem_mem hj)) hN, Option.bind_some, ite_dec, w64_succ (show j < 4611686018427387904 by omega), List.getElem?_eq_getElem hj, List.getElem?_eq_getElem h2, Option.some.injEq]
  · have h0 : ((a.length : Int) != (b.length : Int)) = true := by simp; omega
    rw [h0, cond_true]
    have : a ≠ b := fun h => hl (by rw [h])
    simp [this]
theorem fsz_RelationS {N : Nat} {a : T_RelationS} {l : Int} (h : in_RelationS a) (h0 : 0 ≤ l) (h1 : l ≤ 1048576) (hN : 1048576 < N) : laws_szRelationS N a l = some (sub1 l (s_RelationS a)) := by
  have hlen := h.1
  unfold laws_szRelationS laws_szRelationS_b
  rw [w64_id (by omega) (by omega)]
  by_cases hc : (a.length : Int) ≤ l
  · rw [decide_eq_false (by omega), cond_false]
    rw [szL (a := a) (s := s_Relation) (g := fun x l => laws_szRelation N x l) (f := fun k l i => laws_szRelationS_l0 N k a l i) (fun x hx l h0 h1 => fsz_Relation (h.2 x hx) h0 h1 hN) (fun k l => by simp [laws_szRelationS_l0, laws_szRelationS_l0_b]) (fun k l j hj => by
        have h2 : (j : Int) < (a.length : Int) := by omega
        simp only [laws_szRelationS_l0, laws_szRelationS_l0_b, h2, decide_true, cond_true, inb_lt hj, grd_true, at_lt hj, w64_succ (show j < 4611686018427387904 by omega)]) (by omega) (by omega) (by omega)]
    unfold s_RelationS sumL sub1
    congr 1
    split <;> split <;> omega
  · rw [decide_eq_true (by omega), cond_true]
    unfold s_RelationS sumL sub1
    rw [if_neg (by omega)]
def me_RelationS (N : Nat) (x : T_Relation) (k : Int) : T_Relation := (mkTx N (k), (k + 1), (k + 1 + 1))
def ce_RelationS (x : T_Relation) : Nat := 1 + 1 + 1
def mk_RelationS (N : Nat) (a : T_RelationS) (k : Int) : T_RelationS := mkL ce_RelationS (me_RelationS N) a k
def c_RelationS (a : T_RelationS) : Nat := costL ce_RelationS a
theorem c_s_RelationS (a : T_RelationS) : c_RelationS a ≤ 8 * s_RelationS a := costL_les (c := ce_RelationS) (fun x => by unfold ce_RelationS s_Relation; omega) a
theorem fmk_RelationS {N : Nat} (hm : MtOk N) {a : T_RelationS} {k : Int} (h : b_RelationS a) (h0 : 0 ≤ k) (h1 : k + (c_RelationS a : Int) ≤ 4611686018427387904) (hN : 1048576 < N) : laws_markRelationS N a k = some (mk_RelationS N a k, k + (c_RelationS a : Int)) := by
  have hla : a.length ≤ 1048576 := h.1
  unfold laws_markRelationS laws_markRelationS_b
  refine markL (P := fun y => b_Relation y) (f := fun k a2 k2 i => laws_markRelationS_l0 N k a2 k2 i) (fun k a2 k2 j hj => by subst hj; simp [laws_markRelationS_l0, laws_markRelationS_l0_b]) (fun k a2 k2 j h1 hy h0 hc hl => ?_) h.2 h0 h1 (by omega) (by omega)
  have h2 : (j : Int) < (a2.length : Int) := by omega
  simp only [ce_RelationS, Int.natCast_add, Int.cast_ofNat_Int, Int.natCast_one] at hc
  simp (disch := first | assumption | omega) only [laws_markRelationS_l0, laws_markRelationS_l0_b, h2, decide_true, cond_true, inb_lt h1, inb_set, grd_true, grz_ne, letv_eq, at_lt h1, at_set, set_set, Int.toNat_natCast, w64_ok, w64_succ, Option.bind_some, mt_ok hm, Option.bind_some]
  simp only [ce_RelationS, me_RelationS, Int.natCast_add, Int.cast_ofNat_Int, Int.natCast_one, Int.add_assoc]
abbrev T_Fact := Int × List Int
def in_Fact (x : T_Fact) : Prop := in_int x.1 ∧ in_IntS x.2
def s_Fact (x : T_Fact) : Nat := s_IntS x.2
def b_Fact (x : T_Fact) : Prop := b_IntS x.2
theorem b_of_Fact {x : T_Fact} (h : s_Fact x ≤ 1048576) : b_Fact x := b_of_IntS (by unfold s_Fact at h; omega)
theorem fto_Fact {N : Nat} {x : T_Fact} (h : b_Fact x) (hN : 1048576 < N) : laws_toFact N x = some x := by
  simp [laws_toFact, fto_IntS h hN]
theorem feq_Fact {N : Nat} {x y : T_Fact} (h : b_Fact x) (hN : 1048576 < N) : laws_eqFact N x y = some (decide (x = y)) := by
  simp only [laws_eqFact, bneI, bneB, beqB, seq_eq, feq_IntS h hN, Option.bind_some]
  obtain ⟨x0, x1⟩ := x
  obtain ⟨y0, y1⟩ := y
  simp only [Prod.mk.injEq]
  by_cases e0 : x0 = y0 <;>
  by_cases e1 : x1 = y1 <;> simp [e0, e1]
theorem fsz_Fact {N : Nat} {x : T_Fact} {l : Int} (h : in_Fact x) (h0 : 0 ≤ l) (h1 : l ≤ 1048576) (hN : 1048576 < N) : laws_szFact N x l = some (sub1 l (s_Fact x)) := by
  unfold laws_szFact s_Fact
  rw [fsz_IntS (l := l) h.2 (by omega) (by omega) hN, Option.bind_some]
  unfold sub1
  split
  · rw [decide_eq_false (by omega)]; rfl
  · rfl
abbrev T_FactS := List T_Fact
def in_FactS (a : T_FactS) : Prop := a.length ≤ 9223372036854775807 ∧ ∀ y ∈ a, in_Fact y
def s_FactS (a : T_FactS) : Nat := sumL s_Fact a
def b_FactS (a : T_FactS) : Prop := a.length ≤ 1048576 ∧ ∀ y ∈ a, b_Fact y
theorem b_of_FactS {a : T_FactS} (h : s_FactS a ≤ 1048576) : b_FactS a := ⟨(sumL_len h), fun y hy => b_of_Fact (Nat.le_trans (sumL_mem hy) h)⟩
theorem fto_FactS {N : Nat} {a : T_FactS} (h : b_FactS a) (hN : 1048576 < N) : laws_toFactS N a = some a := by
  have hl : a.length ≤ 1048576 := h.1
  unfold laws_toFactS laws_toFactS_b
  rw [makeOk_lt (by omega), grd_true]
  refine fill (b := a) (fun k out i => laws_toFactS_l0 N k a out i) (fun k out => by simp [laws_toFactS_l0, laws_toFactS_l0_b]) (fun k out j h1 h3 => ?_) (by omega) (by simp)
  have h2 : j < out.length := by omega
  have hj : (j : Int) < (a.length : Int) := by omega
  simp [laws_toFactS_l0, laws_toFactS_l0_b, hj, inb_lt h1, inb_lt h2, at_lt h1, fto_Fact (h.2 _ (List.getElem_mem h1)) hN, w64_succ (show j < 4611686018427387904 by omega)]
theorem feq_FactS {N : Nat} {a b : T_FactS} (h : b_FactS a) (hN : 1048576 < N) : laws_eqFactS N a b = some (decide (a = b)) := by
  have hla : a.length ≤ 1048576 := h.1
  unfold laws_eqFactS laws_eqFactS_b
  by_cases hl : a.length = b.length
  · have h0 : ((a.length : Int) != (b.length : Int)) = false := by simp [hl]
    rw [h0, cond_false, decide_eq_decide.2 (list_eq_iff' hl)]
    refine every (n := a.length) (fun j => decide (a[j]? = b[j]?)) (fun k i => laws_eqFactS_l0 N k a b i) (fun k => by simp [laws_eqFactS_l0, laws_eqFactS_l0_b]) (fun k j hj => ?_) (by omega)
    have h1 : (j : Int) < (a.length : Int) := by omega
    have h2 : j < b.length := by omega
    simp only [laws_eqFactS_l0, laws_eqFactS_l0_b, h1, decide_true, cond_true, inb_lt hj, inb_lt h2, grd_true, at_lt hj, at_lt h2, feq_Fact (h.2 _ (List.getElem_mem hj)) hN, Option.bind_some, ite_dec, w64_succ (show j < 4611686018427387904 by omega), List.getElem?_eq_getElem hj, List.getElem?_eq_getElem h2, Option.some.injEq]
  · have h0 : ((a.length : Int) != (b.length : Int)) = true := by simp; omega
    rw [h0, cond_true]
    have : a ≠ b := fun h => hl (by rw [h])
    simp [this]
theorem fsz_FactS {N : Nat} {a : T_FactS} {l : Int} (h : in_FactS a) (h0 : 0 ≤ l) (h1 : l ≤ 1048576) (hN : 1048576 < N) : laws_szFactS N a l = some (sub1 l (s_FactS a)) := by
  have hlen := h.1
  unfold laws_szFactS laws_szFactS_b
  rw [w64_id (by omega) (by omega)]
  by_cases hc : (a.length : Int) ≤ l
  · rw [decide_eq_false (by omega), cond_false]
    rw [szL (a := a) (s := s_Fact) (g := fun x l => laws_szFact N x l) (f := fun k l i => laws_szFactS_l0 N k a l i) (fun x hx l h0 h1 => fsz_Fact (h.2 x hx) h0 h1 hN) (fun k l => by simp [laws_szFactS_l0, laws_szFactS_l0_b]) (fun k l j hj => by
        have h2 : (j : Int) < (a.length : Int) := by omega
        simp only [laws_szFactS_l0, laws_szFactS_l0_b, h2, decide_true, cond_true, inb_lt hj, grd_true, at_lt hj, w64_succ (show j < 4611686018427387904 by omega)]) (by omega) (by omega) (by omega)]
    unfold s_FactS sumL sub1
    congr 1
    split <;> split <;> omega
  · rw [decide_eq_true (by omega), cond_true]
    unfold s_FactS sumL sub1
    rw [if_neg (by omega)]
def me_FactS (N : Nat) (x : T_Fact) (k : Int) : T_Fact := ((k), mk_IntS N x.2 (k + 1))
def ce_FactS (x : T_Fact) : Nat := 1 + c_IntS x.2
def mk_FactS (N : Nat) (a : T_FactS) (k : Int) : T_FactS := mkL ce_FactS (me_FactS N) a k
def c_FactS (a : T_FactS) : Nat := costL ce_FactS a
theorem c_s_FactS (a : T_FactS) : c_FactS a ≤ 8 * s_FactS a := costL_les (c := ce_FactS) (fun x => by have h0 := c_s_IntS x.2; unfold ce_FactS s_Fact; omega) a
theorem fmk_FactS {N : Nat} {a : T_FactS} {k : Int} (h : b_FactS a) (h0 : 0 ≤ k) (h1 : k + (c_FactS a : Int) ≤ 4611686018427387904) (hN : 1048576 < N) : laws_markFactS N a k = some (mk_FactS N a k, k + (c_FactS a : Int)) := by
  have hla : a.length ≤ 1048576 := h.1
  unfold laws_markFactS laws_markFactS_b
  refine markL (P := fun y => b_Fact y) (f := fun k a2 k2 i => laws_markFactS_l0 N k a2 k2 i) (fun k a2 k2 j hj => by subst hj; simp [laws_markFactS_l0, laws_markFactS_l0_b]) (fun k a2 k2 j h1 hy h0 hc hl => ?_) h.2 h0 h1 (by omega) (by omega)
  have h2 : (j : Int) < (a2.length : Int) := by omega
  have hy0 : b_IntS a2[j].2 := hy
  simp only [ce_FactS, Int.natCast_add, Int.cast_ofNat_Int, Int.natCast_one] at hc
  simp (disch := first | assumption | omega) only [laws_markFactS_l0, laws_markFactS_l0_b, h2, decide_true, cond_true, inb_lt h1, inb_set, grd_true, grz_ne, letv_eq, at_lt h1, at_set, set_set, Int.toNat_natCast, w64_ok, w64_succ, Option.bind_some, fmk_IntS]
  simp only [ce_FactS, me_FactS, Int.natCast_add, Int.cast_ofNat_Int, Int.natCast_one, Int.add_assoc]
abbrev T_Database := (List (ByteArray × Int × Int)) × List (Int × List Int)
def in_Database (x : T_Database) : Prop := in_RelationS x.1 ∧ in_FactS x.2
def s_Database (x : T_Database) : Nat := s_RelationS x.1 + s_FactS x.2
def b_Database (x : T_Database) : Prop := b_RelationS x.1 ∧ b_FactS x.2
theorem b_of_Database {x : T_Database} (h : s_Database x ≤ 1048576) : b_Database x := ⟨b_of_RelationS (by unfold s_Database at h; omega), b_of_FactS (by unfold s_Database at h; omega)⟩
theorem fto_Database {N : Nat} {x : T_Database} (h : b_Database x) (hN : 1048576 < N) : laws_toDatabase N x = some x := by
  simp [laws_toDatabase, fto_RelationS h.1 hN, fto_FactS h.2 hN]
theorem feq_Database {N : Nat} {x y : T_Database} (h : b_Database x) (hN : 1048576 < N) : laws_eqDatabase N x y = some (decide (x = y)) := by
  simp only [laws_eqDatabase, bneI, bneB, beqB, seq_eq, feq_RelationS h.1 hN, feq_FactS h.2 hN, Option.bind_some]
  obtain ⟨x0, x1⟩ := x
  obtain ⟨y0, y1⟩ := y
  simp only [Prod.mk.injEq]
  by_cases e0 : x0 = y0 <;>
  by_cases e1 : x1 = y1 <;> simp [e0, e1]
theorem fsz_Database {N : Nat} {x : T_Database} {l : Int} (h : in_Database x) (h0 : 0 ≤ l) (h1 : l ≤ 1048576) (hN : 1048576 < N) : laws_szDatabase N x l = some (sub1 l (s_Database x)) := by
  unfold laws_szDatabase s_Database
  rw [fsz_RelationS (l := l) h.1 (by omega) (by omega) hN, Option.bind_some]
  by_cases c0 : (s_RelationS x.1 : Int) ≤ l
  case neg => rw [sub1_neg c0]; rw [sub1_neg (by omega)]; rfl
  rw [sub1_pos c0, decide_eq_false (show ¬ l - (s_RelationS x.1 : Int) < 0 by omega), cond_false]
  rw [fsz_FactS (l := (l - (s_RelationS x.1 : Int))) h.2 (by omega) (by omega) hN, Option.bind_some]
  by_cases c1 : (s_FactS x.2 : Int) ≤ (l - (s_RelationS x.1 : Int))
  case neg => rw [sub1_neg c1]; rw [sub1_neg (by omega)]; rfl
  rw [sub1_pos c1, decide_eq_false (show ¬ (l - (s_RelationS x.1 : Int)) - (s_FactS x.2 : Int) < 0 by omega), cond_false]
  rw [sub1_pos (by omega)]; congr 1; omega
def mk_Database (N : Nat) (x : T_Database) (k : Int) : T_Database := (mk_RelationS N x.1 (k), mk_FactS N x.2 (k + (c_RelationS x.1 : Int)))
def c_Database (x : T_Database) : Nat := c_RelationS x.1 + c_FactS x.2
theorem c_s_Database (x : T_Database) : c_Database x ≤ 8 * s_Database x := by have h0 := c_s_RelationS x.1; have h1 := c_s_FactS x.2; unfold c_Database s_Database; omega
theorem fmk_Database {N : Nat} (hm : MtOk N) {x : T_Database} {k : Int} (h : b_Database x) (h0 : 0 ≤ k) (h1 : k + (c_Database x : Int) ≤ 4611686018427387904) (hN : 1048576 < N) : laws_markDatabase N x k = some (mk_Database N x k, k + (c_Database x : Int)) := by
  have hb0 : b_RelationS x.1 := h.1
  have hb1 : b_FactS x.2 := h.2
  simp only [c_Database, Int.natCast_add] at h1
  simp (disch := first | assumption | omega) only [laws_markDatabase, Option.bind_some, fmk_RelationS hm, fmk_FactS]
  simp only [mk_Database, c_Database, Int.natCast_add, Int.add_assoc]
end Go.PL
namespace Go.PL
set_option linter.unusedVariables false
end Go.PL
namespace Go.PL
set_option linter.unusedVariables false
def mx (w : List Int) (m x : Int) : Int := if at_ 0 w x > at_ 0 w m then x else m
def bestB (w b : List Int) : Int := b.foldl (mx w) (at_ 0 b 0)
theorem mx_mem {w b : List Int} : ∀ {l : List Int} {m : Int}, m ∈ b → (∀ x ∈ l, x ∈ b) → l.foldl (mx w) m ∈ b
  | [], m, hm, _ => hm
  | x :: l, m, hm, h => by
    rw [List.foldl_cons]
    refine mx_mem ?_ fun y hy => h y (by simp [hy])
    unfold mx
    split
    · exact h x (by simp)
    · exact hm
theorem head_mem {b : List Int} (hb : b ≠ []) : at_ 0 b 0 ∈ b := by
  cases b with
  | nil => exact absurd rfl hb
  | cons x b =>
    rw [show at_ 0 (x :: b) 0 = x from at_lt (j := 0) (by simp)]; simp
theorem bestB_mem {w b : List Int} (hb : b ≠ []) : bestB w b ∈ b := mx_mem (head_mem hb) fun x hx => hx
theorem best_take {w b : List Int} {q : Nat} (hb : b ≠ []) : (b.take q).foldl (mx w) (at_ 0 b 0) ∈ b := mx_mem (head_mem hb) fun x hx => List.mem_of_mem_take hx

/-- What is in order stays as it is. -/
theorem sortedId {N : Nat} {l : List Int} (hl : l.length ≤ 1000) (hs : l.Pairwise (· < ·)) (hN : 1048576 < N) : spec_l7Sorted N l = some l := by
  unfold spec_l7Sorted spec_l7Sorted_b
  obtain ⟨M, rfl⟩ : ∃ M, N = M + 1 := ⟨N - 1, by omega⟩
  have key := loop (fun k (s : Nat) => spec_l7Sorted_l0 (M + 1) k l (l.take s) (s : Int)) (fun s => s ≤ l.length) (fun s => l.length - s) (fun o => o = some l) (fun k s hs' => by
    by_cases hj : s < l.length
    · right
      refine ⟨s + 1, hj, by omega, ?_⟩
      have h1 : (s : Int) < (l.length : Int) := by omega
      have hlen : (l.take s).length = s := by rw [List.length_take]; omega
      have e0 : l.take (s + 1) = l.take s ++ [l[s]] := List.take_succ_eq_append_getElem hj
      have et : (l.take s).take ((s : Int).toNat) = l.take s := by rw [Int.toNat_natCast, List.take_of_length_le (by omega)]
      have ed : (l.take s).drop ((s : Int).toNat) = [] := by rw [Int.toNat_natCast, List.drop_of_length_le (by omega)]
      have so : subOk 0 (s : Int) s = true := subOk_true (by omega) (by omega) (by omega)
      have so2 : subOk (s : Int) (s : Int) s = true := subOk_true (by omega) (by omega) (by omega)
      have a1 : appOk [] (l.take s) 8 = true := appOk_lt (by omega) (by simp only [List.length_nil]; omega)
      have a2 : appOk (l.take s) [l[s]] 8 = true := appOk_lt (by omega) (by simp only [List.length_singleton]; omega)
      have a3 : appOk (l.take s ++ [l[s]]) ([] : List Int) 8 = true := appOk_lt (by omega) (by simp only [List.length_append, List.length_singleton, List.length_nil]; omega)
      simp only [spec_l7Sorted_l0, spec_l7Sorted_l0_b, h1, decide_true, cond_true, spec_l7Sorted_l1, spec_l7Sorted_l1_b, hlen, et, ed, so, so2, inb_lt hj, at_lt hj, grd_true, a1, a2, a3, List.append_nil, w64_succ (show s < 4611686018427387904 by omega), e0]
      by_cases h0 : (s : Int) > 0
      · have ew : w64 ((s : Int) - 1) = ((s - 1 : Nat) : Int) := by rw [w64_id (by omega) (by omega)]; omega
        have hs1 : s - 1 < (l.take s).length := by omega
        have hlt : ¬ (l.take s)[s - 1] > l[s] := by
          rw [List.getElem_take]
          have := List.pairwise_iff_getElem.1 hs (s - 1) s (by omega) hj (by omega)
          omega
        simp only [decide_eq_true h0, cond_true, ew, inb_lt hs1, grd_true, at_lt hs1, decide_eq_false hlt, cond_false]
      · simp only [decide_eq_false h0, cond_false]
    · left
      have : s = l.length := by omega
      subst this
      simp [spec_l7Sorted_l0, spec_l7Sorted_l0_b]) (M + 1) 0 (by omega) (by omega)
  exact key

/-- One of each block, in order. -/
theorem pick_sorted {L : List (List Int)} {f : List Int → Int} (hf : ∀ b ∈ L, f b ∈ b) (hs : L.flatten.Pairwise (· < ·)) : (L.map f).Pairwise (· < ·) := by
  induction L with
  | nil => simp
  | cons b L ih =>
    rw [List.flatten_cons, List.pairwise_append] at hs
    rw [List.map_cons, List.pairwise_cons]
    refine ⟨fun y hy => ?_, ih (fun c hc => hf c (by simp [hc])) hs.2.1⟩
    obtain ⟨c, hc, rfl⟩ := List.mem_map.1 hy
    exact hs.2.2 _ (hf b (by simp)) _ (List.mem_flatten.2 ⟨c, hc, hf c (by simp [hc])⟩)
theorem toI_flatten : ∀ L : List (List Nat), (L.map toI).flatten = toI L.flatten
  | [] => rfl
  | b :: L => by rw [List.map_cons, List.flatten_cons, List.flatten_cons, toI_append, toI_flatten L]
theorem blocks_flat {d : Db} (hvb : validDb d = true) : (blocksOf d).flatten = toI (List.range d.2.length) := by
  unfold blocksOf
  rw [if_pos hvb, toI_flatten, B_flat (runs (validDb_of hvb)) _ (Nat.le_refl _)]
theorem range_sorted (n : Nat) : (toI (List.range n)).Pairwise (· < ·) := by
  unfold toI
  rw [List.pairwise_map]
  exact List.Pairwise.imp (fun h => by omega) List.pairwise_lt_range

def likely (d : Db) (w : List Int) : List Int := (blocksOf d).map (bestB w)
theorem specBest {N : Nat} {w : List Int} {L : List (List Int)} {j : Nat} (hj : j < L.length) (hne : L[j] ≠ []) (hb : (L[j]).length ≤ 1000) (hin : ∀ x ∈ L[j], 0 ≤ x ∧ x < (w.length : Int)) (hN : 1048576 < N)
    (R : List Int → List Int → List (List Int) → Int → Option (List Int × Bool)) {out : List Int} (ho : out.length ≤ 1000) :
    spec_MostLikelyRepair_l1 R N N w out L (j : Int) (at_ 0 L[j] 0) 1 = R w (out ++ [bestB w L[j]]) L (w64 ((j : Int) + 1)) := by
  have hpos : 0 < (L[j]).length := List.length_pos_iff.2 hne
  have := loop (fun k (s : Int × Nat) => spec_MostLikelyRepair_l1 R N k w out L (j : Int) s.1 (s.2 : Int)) (fun s => s.2 ≤ (L[j]).length ∧ 1 ≤ s.2 ∧ s.1 = ((L[j]).take s.2).foldl (mx w) (at_ 0 L[j] 0)) (fun s => (L[j]).length - s.2) (fun o => o = R w (out ++ [bestB w L[j]]) L (w64 ((j : Int) + 1))) (fun k s hs => by
    obtain ⟨m, q⟩ := s
    obtain ⟨h1, h0, h2⟩ := hs
    simp only at h1 h2 h0 ⊢
    have hm : m ∈ L[j] := h2 ▸ best_take hne
    have hmi := hin _ hm
    by_cases hq : q < (L[j]).length
    · right
      have e1 : (q : Int) < ((L[j]).length : Int) := by omega
      have hx := hin _ (List.getElem_mem hq)
      refine ⟨(((L[j]).take (q + 1)).foldl (mx w) (at_ 0 L[j] 0), q + 1), ⟨hq, by simp only; omega, rfl⟩, by simp only; omega, ?_⟩
      simp only [spec_MostLikelyRepair_l1, spec_MostLikelyRepair_l1_b, inb_lt hj, grd_true, at_lt hj, e1, decide_true, cond_true, inb_lt hq, at_lt hq, inb_int hx.1 hx.2, inb_int hmi.1 hmi.2, w64_succ (show q < 4611686018427387904 by omega)]
      rw [List.take_succ_eq_append_getElem hq, List.foldl_append, ← h2, List.foldl_cons, List.foldl_nil]
      unfold mx
      by_cases hc : at_ 0 w (L[j])[q] > at_ 0 w m
      · rw [decide_eq_true hc, cond_true, if_pos hc]
      · rw [decide_eq_false hc, cond_false, if_neg hc]
    · left
      have : q = (L[j]).length := by omega
      subst this
      simp only [spec_MostLikelyRepair_l1, spec_MostLikelyRepair_l1_b, inb_lt hj, grd_true, at_lt hj, Int.lt_irrefl, decide_false, cond_false]
      rw [appOk_lt (by omega) (by simp only [List.length_singleton]; omega), grd_true, h2, List.take_length]; rfl) N (at_ 0 L[j] 0, 1) (by simp only; omega) ⟨hpos, Nat.le_refl _, by
        simp only
        obtain ⟨x, b, hb⟩ := List.exists_cons_of_ne_nil hne
        rw [hb]
        rw [show at_ 0 (x :: b) 0 = x from at_lt (j := 0) (by simp)]
        simp [mx]⟩
  exact this
theorem implBest {N : Nat} {w : List Int} {L : List (List Int)} {j : Nat} (hj : j < L.length) (hne : L[j] ≠ []) (hb : (L[j]).length ≤ 1000) (hin : ∀ x ∈ L[j], 0 ≤ x ∧ x < (w.length : Int)) (hN : 1048576 < N)
    (R : List Int → List Int → List (List Int) → Int → Int → Option (List Int × Bool)) {out : List Int} (ho : out.length ≤ 1000) (n i : Int) :
    impl_MostLikelyRepair_l1 R N N w out (at_ 0 L[j] 0) L n (j : Int) i L[j] ((L[j]).length : Int) 0 = R w (out ++ [bestB w L[j]]) L n (w64 ((j : Int) + 1)) := by
  have hpos : 0 < (L[j]).length := List.length_pos_iff.2 hne
  have := loop (fun k (s : Int × Nat) => impl_MostLikelyRepair_l1 R N k w out s.1 L n (j : Int) i L[j] ((L[j]).length : Int) (s.2 : Int)) (fun s => s.2 ≤ (L[j]).length ∧ s.1 = ((L[j]).take s.2).foldl (mx w) (at_ 0 L[j] 0)) (fun s => (L[j]).length - s.2) (fun o => o = R w (out ++ [bestB w L[j]]) L n (w64 ((j : Int) + 1))) (fun k s hs => by
    obtain ⟨m, q⟩ := s
    obtain ⟨h1, h2⟩ := hs
    simp only at h1 h2 ⊢
    have hm : m ∈ L[j] := h2 ▸ best_take hne
    have hmi := hin _ hm
    by_cases hq : q < (L[j]).length
    · right
      have e1 : (q : Int) < ((L[j]).length : Int) := by omega
      have hx := hin _ (List.getElem_mem hq)
      refine ⟨(((L[j]).take (q + 1)).foldl (mx w) (at_ 0 L[j] 0), q + 1), ⟨hq, rfl⟩, by simp only; omega, ?_⟩
      simp only [impl_MostLikelyRepair_l1, impl_MostLikelyRepair_l1_b, grd_true, e1, decide_true, cond_true, inb_lt hq, at_lt hq, inb_int hx.1 hx.2, inb_int hmi.1 hmi.2, w64_succ (show q < 4611686018427387904 by omega)]
      rw [List.take_succ_eq_append_getElem hq, List.foldl_append, ← h2, List.foldl_cons, List.foldl_nil]
      unfold mx
      by_cases hc : at_ 0 w (L[j])[q] > at_ 0 w m
      · rw [decide_eq_true hc, cond_true, if_pos hc]
      · rw [decide_eq_false hc, cond_false, if_neg hc]
    · left
      have : q = (L[j]).length := by omega
      subst this
      simp only [impl_MostLikelyRepair_l1, impl_MostLikelyRepair_l1_b, Int.lt_irrefl, decide_false, cond_false]
      rw [appOk_lt (by omega) (by simp only [List.length_singleton]; omega), grd_true, h2, List.take_length]; rfl) N (at_ 0 L[j] 0, 0) (by simp only; omega) ⟨by omega, by simp⟩
  exact this

def likelyR (d : Db) (w : List Int) : List Int × Bool := if validWeights d w then (likely d w, true) else ([], false)
theorem likely_len {d : Db} (hvb : validDb d = true) (w : List Int) : (likely d w).length ≤ 14 := by
  obtain ⟨s1, s2, s3, s4⟩ := sizes_valid hvb
  unfold likely; rw [List.length_map]; omega
theorem likelyR_len (d : Db) (w : List Int) : (likelyR d w).1.length ≤ 14 := by
  unfold likelyR
  split
  · rename_i h
    unfold validWeights at h
    simp only [Bool.and_eq_true] at h
    exact likely_len h.1 w
  · simp
theorem specLikely {N : Nat} {d : Db} {w : List Int} (h : SmallDb d) (hw : w.length ≤ 1048576) (hN : 1048576 < N) : spec_MostLikelyRepair N d w = some (likelyR d w) := by
  unfold spec_MostLikelyRepair spec_MostLikelyRepair_b likelyR
  rw [specWeights h hw hN, Option.bind_some]
  cases hvw : validWeights d w with
  | false => rfl
  | true =>
    have hvw2 := hvw
    unfold validWeights at hvw2
    simp only [Bool.and_eq_true, decide_eq_true_eq] at hvw2
    obtain ⟨hvb, hwl, _⟩ := hvw2
    obtain ⟨s1, s2, s3, s4⟩ := sizes_valid hvb
    have hf := (validDb_of hvb).few
    have hso := sortedId (N := N) (l := likely d w) (by have := likely_len hvb w; omega) (pick_sorted (fun b hb => bestB_mem (blocks_ne hvb b hb).1) (by rw [blocks_flat hvb]; exact range_sorted _)) hN
    simp only [Bool.not_true, cond_false, specBlocks h hN, Option.bind_some]
    unfold likely at hso ⊢
    have hne := blocks_ne hvb
    have hin : ∀ b ∈ blocksOf d, ∀ x ∈ b, 0 ≤ x ∧ x < (w.length : Int) := fun b hb x hx => by rw [hwl]; exact blocks_in' hvb b hb x hx
    generalize blocksOf d = L at *
    have := loop (fun k (s : Nat) => spec_MostLikelyRepair_l0 N k w ((L.take s).map (bestB w)) L (s : Int)) (fun s => s ≤ L.length) (fun s => L.length - s) (fun o => o = some (L.map (bestB w), true)) (fun k s hs => by
      by_cases hj : s < L.length
      · right
        refine ⟨s + 1, hj, by omega, ?_⟩
        have h1 : (s : Int) < (L.length : Int) := by omega
        have hm := List.getElem_mem hj
        have hpos : 0 < (L[s]).length := List.length_pos_iff.2 (hne _ hm).1
        simp only [spec_MostLikelyRepair_l0, spec_MostLikelyRepair_l0_b, h1, decide_true, cond_true, inb_lt hj, grd_true, at_lt hj, show inb 0 L[s] = true from inb_lt (j := 0) hpos]
        rw [specBest hj (hne _ hm).1 (by have := (hne _ hm).2; omega) (hin _ hm) hN _ (by rw [List.length_map, List.length_take]; omega), w64_succ (by omega), List.take_succ_eq_append_getElem hj, List.map_append]
        rfl
      · left
        have : s = L.length := by omega
        subst this
        simp only [spec_MostLikelyRepair_l0, spec_MostLikelyRepair_l0_b, Int.lt_irrefl, decide_false, cond_false, List.take_length, hso, Option.bind_some]) N 0 (by omega) (by omega)
    exact this
theorem implLikely {N : Nat} {d : Db} {w : List Int} (h : SmallDb d) (hw : w.length ≤ 1048576) (hN : 1048576 < N) : impl_MostLikelyRepair N d w = some (likelyR d w) := by
  unfold impl_MostLikelyRepair impl_MostLikelyRepair_b likelyR
  rw [implWeights h hw hN, Option.bind_some]
  cases hvw : validWeights d w with
  | false => rfl
  | true =>
    have hvw2 := hvw
    unfold validWeights at hvw2
    simp only [Bool.and_eq_true, decide_eq_true_eq] at hvw2
    obtain ⟨hvb, hwl, _⟩ := hvw2
    obtain ⟨s1, s2, s3, s4⟩ := sizes_valid hvb
    have hf := (validDb_of hvb).few
    simp only [Bool.not_true, cond_false, implBlk h hvb hN, Option.bind_some]
    unfold likely
    have hne := blocks_ne hvb
    have hin : ∀ b ∈ blocksOf d, ∀ x ∈ b, 0 ≤ x ∧ x < (w.length : Int) := fun b hb x hx => by rw [hwl]; exact blocks_in' hvb b hb x hx
    generalize blocksOf d = L at *
    have := loop (fun k (s : Nat) => impl_MostLikelyRepair_l0 N k w ((L.take s).map (bestB w)) L (L.length : Int) (s : Int)) (fun s => s ≤ L.length) (fun s => L.length - s) (fun o => o = some (L.map (bestB w), true)) (fun k s hs => by
      by_cases hj : s < L.length
      · right
        refine ⟨s + 1, hj, by omega, ?_⟩
        have h1 : (s : Int) < (L.length : Int) := by omega
        have hm := List.getElem_mem hj
        have hpos : 0 < (L[s]).length := List.length_pos_iff.2 (hne _ hm).1
        simp only [impl_MostLikelyRepair_l0, impl_MostLikelyRepair_l0_b, h1, decide_true, cond_true, inb_lt hj, grd_true, at_lt hj, show inb 0 L[s] = true from inb_lt (j := 0) hpos]
        rw [implBest hj (hne _ hm).1 (by have := (hne _ hm).2; omega) (hin _ hm) hN _ (by rw [List.length_map, List.length_take]; omega), w64_succ (by omega), List.take_succ_eq_append_getElem hj, List.map_append]
        rfl
      · left
        have : s = L.length := by omega
        subst this
        simp only [impl_MostLikelyRepair_l0, impl_MostLikelyRepair_l0_b, Int.lt_irrefl, decide_false, cond_false, List.take_length]) N 0 (by omega) (by omega)
    exact this
end Go.PL
namespace Go.PL
set_option linter.unusedVariables false
theorem c_IntS_eq (a : List Int) : c_IntS a = a.length := by
  unfold c_IntS costL
  have : ce_IntS = fun _ => 1 := rfl
  rw [this]
  induction a with
  | nil => rfl
  | cons x a ih => simp only [List.map_cons, List.sum_cons, List.length_cons, ih]; omega
end Go.PL
namespace Go.PL
set_option linter.unusedVariables false
theorem smallOf {d : Db} (h : b_Database d) : SmallDb d := ⟨h.1.1, h.2.1, fun f hf => h.2.2 f hf⟩

end Go.PL
namespace Go.PL
theorem law_MostLikelyRepair {N : Nat} (hN : 1048576 < N) {d : T_Database} {w : List Int} (hd : in_Database d) : laws_FnExactMostLikelyRepair N d w = some true := by
  unfold laws_FnExactMostLikelyRepair
  by_cases hw : (w.length : Int) > 1048576
  · rw [decide_eq_true hw]; rfl
  rw [decide_eq_false hw, cond_false, fsz_Database hd (by omega) (by omega) hN, Option.bind_some]
  by_cases h1 : (s_Database d : Int) ≤ 1048576
  case neg => rw [sub1_neg h1]; rfl
  rw [sub1_pos h1, not_neg (by omega), cond_false]
  have hb : b_Database d := b_of_Database (by omega)
  have hbw : b_IntS w := by show w.length ≤ 1048576; omega
  have hw' : w.length ≤ 1048576 := hbw
  have hm := mtOk hN
  have hs := smallOf hb
  have hrl := likelyR_len d w
  have hr : b_IntS (likelyR d w).1 := Nat.le_trans hrl (by omega)
  have hcd := c_s_Database d
  have hcw := c_IntS_eq w
  have hcr := c_IntS_eq (likelyR d w).1
  simp only [fto_Database hb hN, fto_IntS hbw hN, Option.bind_some, specLikely hs hw' hN, implLikely hs hw' hN, feq_IntS hr hN, feq_Database hb hN, feq_IntS hbw hN, decide_true, Bool.not_true, cond_false, beq_self_eq_true]
  rw [fmk_Database hm hb (by omega) (by omega) hN, Option.bind_some]
  simp only
  rw [fmk_IntS hbw (by omega) (by omega) hN, Option.bind_some]
  simp only
  rw [not_neg (by omega), cond_false, fmk_IntS hr (by omega) (by omega) hN, Option.bind_some]
  simp only [fhd_IntS hr (show (0 : Int) ≤ 1 by omega) (by omega) hN, Option.bind_some]
  rw [not_neg (by omega)]
  simp
end Go.PL
