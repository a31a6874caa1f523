/- The functions read plainly, and the plain law of them. Conditions: those that stand in each theorem. -/
import GoSem.Core.View
import GoSem.Op.String

/- Words of the plain reading. Conditions: none (definitions alone). -/
namespace Go.PL

def w64 (x : Int) : Int := IntKind.i64.wrap x
def w (k : IntKind) (x : Int) : Int := k.wrap x
def grd {α : Type} (c : Bool) (x : Option α) : Option α := bif c then x else none
def grz {α : Type} (b : Int) (x : Option α) : Option α := bif decide (b = 0) then none else x
def letv {α β : Type} (v : α) (k : α → β) : β := k v
def at_ {α : Type} (d : α) (xs : List α) (i : Int) : α := xs.getD i.toNat d
def inb {α : Type} (i : Int) (xs : List α) : Bool := decide (0 ≤ i) && decide (i < (xs.length : Int))
/-- A row that grew is stored where it stood. -/
def growOk {α : Type} (i' i : Int) (xs : List α) : Bool := decide (i' = i) && (decide (0 ≤ i') && decide (i' < (xs.length : Int)))
def appOk {α : Type} (s x : List α) (b : Nat) : Bool := decide ((s.length + x.length) * b ≤ 140737488355328)
def makeOk (n : Int) (b : Nat) : Bool := decide (n = n) && (decide (0 ≤ n) && decide (n * b ≤ 140737488355328))
def byteAt (s : ByteArray) (n : Int) : Option UInt8 := if 0 ≤ n then s[n.toNat]? else none
def catOk (a b : ByteArray) : Bool := decide (a.size + b.size ≤ 140737488355328)
def seq (a b : ByteArray) : Bool := a.toList == b.toList
def slt (a b : ByteArray) : Bool := Op.bytesLess a.toList b.toList
def subOk (lo hi : Int) (n : Nat) : Bool := decide (0 ≤ lo) && (decide (lo ≤ hi) && decide (hi ≤ (n : Int)))
def sub (s : ByteArray) (lo hi : Int) : ByteArray := s.extract lo.toNat hi.toNat
def ofBytes (x : List Int) : ByteArray := ⟨(x.map fun n => UInt8.ofNat n.toNat).toArray⟩
def bits (op : BinOp) (k : IntKind) (a b : Int) : Int := match op with
 | .and => k.wrap ((BitVec.ofInt k.bits a &&& BitVec.ofInt k.bits b).toNat : Int)
 | .xor => k.wrap ((BitVec.ofInt k.bits a ^^^ BitVec.ofInt k.bits b).toNat : Int)
 | .or => k.wrap ((BitVec.ofInt k.bits a ||| BitVec.ofInt k.bits b).toNat : Int)
 | .shl => k.wrap (a * 2 ^ (min b.toNat k.bits))
 | .shr => a.fdiv (2 ^ (min b.toNat k.bits))
 | _ => 0
def imax (a b : Int) : Int := if b > a then b else a
def imin (a b : Int) : Int := if b < a then b else a
end Go.PL

/- The functions, read plainly. Conditions: none (definitions alone). -/
namespace Go.PL
set_option linter.unusedVariables false

def slices_Grow_Lint_int (N : Nat) (s : List Int) (n : Int) : Option (List Int) := grd (decide (0 ≤ n) && decide ((s.length + n.toNat) * 8 ≤ 140737488355328)) (some s)
def slices_Sort_Lint_int (N : Nat) (s : List Int) : Option (List Int) := grd (decide (s.length < 4611686018427387904)) (some (s.mergeSort fun a b => decide (a ≤ b)))
def slices_Compact_Lint_int (N : Nat) (s : List Int) : Option (List Int) := some (((List.range s.length).filter fun j => decide (j = 0 ∨ s.toArray[j]! ≠ s.toArray[j - 1]!)).map fun j => s.toArray[j]!)
def laws_szRelation (N : Nat) (a : ByteArray × Int × Int) (left_ : Int) : Option (Int) :=
 bif decide ((w64 (left_ - (a.1.size : Int))) < 0) then some (-1)
 else
 some (w64 (left_ - (a.1.size : Int)))
def laws_szRelationS_l0_b (N : Nat) (rec_ : (List (ByteArray × Int × Int)) → Int → Int → Option (Int)) (a2 : List (ByteArray × Int × Int)) (left_2 : Int) (i : Int) : Option (Int) :=
 bif decide (i < (a2.length : Int)) then
  grd (inb i a2) <|
  (laws_szRelation N ((at_ (⟨#[]⟩, (0, 0)) a2 i).1, ((at_ (⟨#[]⟩, (0, 0)) a2 i).2)) left_2).bind fun r =>
  bif decide (r < 0) then some (-1)
  else
  rec_ a2 r (w64 (i + 1))
 else
 some left_2
def laws_szRelationS_l0 (N : Nat) : Nat → (List (ByteArray × Int × Int)) → Int → Int → Option (Int)
 | 0, _, _, _ => none
 | k_ + 1, a2, left_2, i => laws_szRelationS_l0_b N (laws_szRelationS_l0 N k_) a2 left_2 i
def laws_szRelationS_b (N : Nat) (laws_szRelationS_l0S : (List (ByteArray × Int × Int)) → Int → Int → Option (Int)) (a : List (ByteArray × Int × Int)) (left_ : Int) : Option (Int) :=
 bif decide ((w64 (left_ - (a.length : Int))) < 0) then some (-1)
 else
 laws_szRelationS_l0S a (w64 (left_ - (a.length : Int))) 0
def laws_szRelationS (N : Nat) (a : List (ByteArray × Int × Int)) (left_ : Int) : Option (Int) := laws_szRelationS_b N (laws_szRelationS_l0 N N) a left_
def laws_szIntS (N : Nat) (a : List Int) (left_ : Int) : Option (Int) :=
 bif decide ((w64 (left_ - (a.length : Int))) < 0) then some (-1)
 else
 some (w64 (left_ - (a.length : Int)))
def laws_szFact (N : Nat) (a : Int × List Int) (left_ : Int) : Option (Int) :=
 (laws_szIntS N a.2 left_).bind fun r =>
 bif decide (r < 0) then some (-1)
 else
 some r
def laws_szFactS_l0_b (N : Nat) (rec_ : (List (Int × List Int)) → Int → Int → Option (Int)) (a2 : List (Int × List Int)) (left_2 : Int) (i : Int) : Option (Int) :=
 bif decide (i < (a2.length : Int)) then
  grd (inb i a2) <|
  (laws_szFact N (at_ (0, []) a2 i) left_2).bind fun r =>
  bif decide (r < 0) then some (-1)
  else
  rec_ a2 r (w64 (i + 1))
 else
 some left_2
def laws_szFactS_l0 (N : Nat) : Nat → (List (Int × List Int)) → Int → Int → Option (Int)
 | 0, _, _, _ => none
 | k_ + 1, a2, left_2, i => laws_szFactS_l0_b N (laws_szFactS_l0 N k_) a2 left_2 i
def laws_szFactS_b (N : Nat) (laws_szFactS_l0S : (List (Int × List Int)) → Int → Int → Option (Int)) (a : List (Int × List Int)) (left_ : Int) : Option (Int) :=
 bif decide ((w64 (left_ - (a.length : Int))) < 0) then some (-1)
 else
 laws_szFactS_l0S a (w64 (left_ - (a.length : Int))) 0
def laws_szFactS (N : Nat) (a : List (Int × List Int)) (left_ : Int) : Option (Int) := laws_szFactS_b N (laws_szFactS_l0 N N) a left_
def laws_szDatabase (N : Nat) (a : List (ByteArray × Int × Int) × List (Int × List Int)) (left_ : Int) : Option (Int) :=
 (laws_szRelationS N a.1 left_).bind fun r =>
 bif decide (r < 0) then some (-1)
 else
 (laws_szFactS N a.2 r).bind fun r2 =>
 bif decide (r2 < 0) then some (-1)
 else
 some r2
def laws_toRelation (N : Nat) (a : ByteArray × Int × Int) : Option (ByteArray × Int × Int) :=
 some a
def laws_toRelationS_l0_b (N : Nat) (rec_ : (List (ByteArray × Int × Int)) → (List (ByteArray × Int × Int)) → Int → Option (List (ByteArray × Int × Int))) (a2 : List (ByteArray × Int × Int)) (out : List (ByteArray × Int × Int)) (i : Int) : Option (List (ByteArray × Int × Int)) :=
 bif decide (i < (a2.length : Int)) then
  grd (inb i a2) <|
  (laws_toRelation N ((at_ (⟨#[]⟩, (0, 0)) a2 i).1, ((at_ (⟨#[]⟩, (0, 0)) a2 i).2))).bind fun r =>
  grd (inb i out) <|
  grd (inb i out) <|
  letv (out.set i.toNat r) fun u =>
  rec_ a2 u (w64 (i + 1))
 else
 some out
def laws_toRelationS_l0 (N : Nat) : Nat → (List (ByteArray × Int × Int)) → (List (ByteArray × Int × Int)) → Int → Option (List (ByteArray × Int × Int))
 | 0, _, _, _ => none
 | k_ + 1, a2, out, i => laws_toRelationS_l0_b N (laws_toRelationS_l0 N k_) a2 out i
def laws_toRelationS_b (N : Nat) (laws_toRelationS_l0S : (List (ByteArray × Int × Int)) → (List (ByteArray × Int × Int)) → Int → Option (List (ByteArray × Int × Int))) (a : List (ByteArray × Int × Int)) : Option (List (ByteArray × Int × Int)) :=
 grd (makeOk (a.length : Int) 32) <|
 laws_toRelationS_l0S a (List.replicate (a.length : Int).toNat (⟨#[]⟩, (0, 0))) 0
def laws_toRelationS (N : Nat) (a : List (ByteArray × Int × Int)) : Option (List (ByteArray × Int × Int)) := laws_toRelationS_b N (laws_toRelationS_l0 N N) a
def laws_toIntS_l0_b (N : Nat) (rec_ : (List Int) → (List Int) → Int → Option (List Int)) (a2 : List Int) (out : List Int) (i : Int) : Option (List Int) :=
 bif decide (i < (a2.length : Int)) then
  grd (inb i a2) <|
  grd (inb i out) <|
  grd (inb i out) <|
  letv (out.set i.toNat (at_ 0 a2 i)) fun u =>
  rec_ a2 u (w64 (i + 1))
 else
 some out
def laws_toIntS_l0 (N : Nat) : Nat → (List Int) → (List Int) → Int → Option (List Int)
 | 0, _, _, _ => none
 | k_ + 1, a2, out, i => laws_toIntS_l0_b N (laws_toIntS_l0 N k_) a2 out i
def laws_toIntS_b (N : Nat) (laws_toIntS_l0S : (List Int) → (List Int) → Int → Option (List Int)) (a : List Int) : Option (List Int) :=
 grd (makeOk (a.length : Int) 8) <|
 laws_toIntS_l0S a (List.replicate (a.length : Int).toNat 0) 0
def laws_toIntS (N : Nat) (a : List Int) : Option (List Int) := laws_toIntS_b N (laws_toIntS_l0 N N) a
def laws_toFact (N : Nat) (a : Int × List Int) : Option (Int × List Int) :=
 (laws_toIntS N a.2).bind fun r =>
 some (a.1, r)
def laws_toFactS_l0_b (N : Nat) (rec_ : (List (Int × List Int)) → (List (Int × List Int)) → Int → Option (List (Int × List Int))) (a2 : List (Int × List Int)) (out : List (Int × List Int)) (i : Int) : Option (List (Int × List Int)) :=
 bif decide (i < (a2.length : Int)) then
  grd (inb i a2) <|
  (laws_toFact N (at_ (0, []) a2 i)).bind fun r =>
  grd (inb i out) <|
  grd (inb i out) <|
  letv (out.set i.toNat r) fun u =>
  rec_ a2 u (w64 (i + 1))
 else
 some out
def laws_toFactS_l0 (N : Nat) : Nat → (List (Int × List Int)) → (List (Int × List Int)) → Int → Option (List (Int × List Int))
 | 0, _, _, _ => none
 | k_ + 1, a2, out, i => laws_toFactS_l0_b N (laws_toFactS_l0 N k_) a2 out i
def laws_toFactS_b (N : Nat) (laws_toFactS_l0S : (List (Int × List Int)) → (List (Int × List Int)) → Int → Option (List (Int × List Int))) (a : List (Int × List Int)) : Option (List (Int × List Int)) :=
 grd (makeOk (a.length : Int) 32) <|
 laws_toFactS_l0S a (List.replicate (a.length : Int).toNat (0, [])) 0
def laws_toFactS (N : Nat) (a : List (Int × List Int)) : Option (List (Int × List Int)) := laws_toFactS_b N (laws_toFactS_l0 N N) a
def laws_toDatabase (N : Nat) (a : List (ByteArray × Int × Int) × List (Int × List Int)) : Option (List (ByteArray × Int × Int) × List (Int × List Int)) :=
 (laws_toRelationS N a.1).bind fun r =>
 (laws_toFactS N a.2).bind fun r2 =>
 some (r, r2)
def spec_l1In (N : Nat) (x : Int) (low : Int) (high : Int) : Option (Bool) :=
 bif decide (x ≥ low) then some (decide (x ≤ high))
 else
 some false
def spec_IsValidRelation (N : Nat) (s : ByteArray × Int × Int) : Option (Bool) :=
 bif ((s.1.size : Int) == 1) then
  (byteAt s.1 0).bind fun b =>
  bif decide ((b.toNat : Int) ≥ 97) then
   (byteAt s.1 0).bind fun b2 =>
   bif decide ((b2.toNat : Int) ≤ 122) then
    (spec_l1In N s.2.1 1 3).bind fun r =>
    bif r then
     (spec_l1In N s.2.2 0 s.2.1).bind fun r2 =>
     some r2
    else
    some false
   else
   some false
  else
  some false
 else
 some false
def spec_AreValidRelations_l0_b (N : Nat) (rec_ : (List (ByteArray × Int × Int)) → Int → Option (Bool)) (l2 : List (ByteArray × Int × Int)) (i : Int) : Option (Bool) :=
 bif decide (i < (l2.length : Int)) then
  grd (inb i l2) <|
  (spec_IsValidRelation N ((at_ (⟨#[]⟩, (0, 0)) l2 i).1, ((at_ (⟨#[]⟩, (0, 0)) l2 i).2))).bind fun r =>
  bif (!r) then some false
  else
  bif decide (i > 0) then
   grd (inb (w64 (i - 1)) l2) <|
   grd (inb i l2) <|
   bif (!slt ((at_ (⟨#[]⟩, (0, 0)) l2 (w64 (i - 1))).1) ((at_ (⟨#[]⟩, (0, 0)) l2 i).1)) then some false
   else
   rec_ l2 (w64 (i + 1))
  else
  rec_ l2 (w64 (i + 1))
 else
 some (decide ((l2.length : Int) ≤ 4))
def spec_AreValidRelations_l0 (N : Nat) : Nat → (List (ByteArray × Int × Int)) → Int → Option (Bool)
 | 0, _, _ => none
 | k_ + 1, l2, i => spec_AreValidRelations_l0_b N (spec_AreValidRelations_l0 N k_) l2 i
def spec_AreValidRelations_b (N : Nat) (spec_AreValidRelations_l0S : (List (ByteArray × Int × Int)) → Int → Option (Bool)) (l : List (ByteArray × Int × Int)) : Option (Bool) :=
 spec_AreValidRelations_l0S l 0
def spec_AreValidRelations (N : Nat) (l : List (ByteArray × Int × Int)) : Option (Bool) := spec_AreValidRelations_b N (spec_AreValidRelations_l0 N N) l
def spec_IsValidFact_l0_b (N : Nat) (rec_ : Int → (List Int) → Int → Option (Bool)) (f2 : Int) (f3 : List Int) (i : Int) : Option (Bool) :=
 bif decide (i < (f3.length : Int)) then
  grd (inb i f3) <|
  (spec_l1In N (at_ 0 f3 i) 0 9).bind fun r3 =>
  bif (!r3) then some false
  else
  rec_ f2 f3 (w64 (i + 1))
 else
 some true
def spec_IsValidFact_l0 (N : Nat) : Nat → Int → (List Int) → Int → Option (Bool)
 | 0, _, _, _ => none
 | k_ + 1, f2, f3, i => spec_IsValidFact_l0_b N (spec_IsValidFact_l0 N k_) f2 f3 i
def spec_IsValidFact_b (N : Nat) (spec_IsValidFact_l0S : Int → (List Int) → Int → Option (Bool)) (l : List (ByteArray × Int × Int)) (f : Int × List Int) : Option (Bool) :=
 (spec_AreValidRelations N l).bind fun r =>
 bif (!r) then some false
 else
 (spec_l1In N f.1 0 (w64 ((l.length : Int) - 1))).bind fun r2 =>
 bif (!r2) then some false
 else
 grd (inb f.1 l) <|
 bif ((f.2.length : Int) != (((at_ (⟨#[]⟩, (0, 0)) l f.1).2).1)) then some false
 else
 spec_IsValidFact_l0S f.1 f.2 0
def spec_IsValidFact (N : Nat) (l : List (ByteArray × Int × Int)) (f : Int × List Int) : Option (Bool) := spec_IsValidFact_b N (spec_IsValidFact_l0 N N) l f
def spec_l3Ints_l0_b (N : Nat) (rec_ : (List Int) → (List Int) → Int → Option (Int)) (a2 : List Int) (b2 : List Int) (i : Int) : Option (Int) :=
 bif decide (i < (a2.length : Int)) then
  bif decide (i < (b2.length : Int)) then
   grd (inb i a2) <|
   grd (inb i b2) <|
   bif decide ((at_ 0 a2 i) < (at_ 0 b2 i)) then some (-1)
   else
   grd (inb i a2) <|
   grd (inb i b2) <|
   bif decide ((at_ 0 a2 i) > (at_ 0 b2 i)) then some 1
   else
   rec_ a2 b2 (w64 (i + 1))
  else
  bif decide ((a2.length : Int) < (b2.length : Int)) then some (-1)
  else
  bif decide ((a2.length : Int) > (b2.length : Int)) then some 1
  else
  some 0
 else
 bif decide ((a2.length : Int) < (b2.length : Int)) then some (-1)
 else
 bif decide ((a2.length : Int) > (b2.length : Int)) then some 1
 else
 some 0
def spec_l3Ints_l0 (N : Nat) : Nat → (List Int) → (List Int) → Int → Option (Int)
 | 0, _, _, _ => none
 | k_ + 1, a2, b2, i => spec_l3Ints_l0_b N (spec_l3Ints_l0 N k_) a2 b2 i
def spec_l3Ints_b (N : Nat) (spec_l3Ints_l0S : (List Int) → (List Int) → Int → Option (Int)) (a : List Int) (b : List Int) : Option (Int) :=
 spec_l3Ints_l0S a b 0
def spec_l3Ints (N : Nat) (a : List Int) (b : List Int) : Option (Int) := spec_l3Ints_b N (spec_l3Ints_l0 N N) a b
def spec_CompareFacts (N : Nat) (a : Int × List Int) (b : Int × List Int) : Option (Int) :=
 bif decide (a.1 < b.1) then some (-1)
 else
 bif decide (a.1 > b.1) then some 1
 else
 (spec_l3Ints N a.2 b.2).bind fun r =>
 some r
def spec_IsValidDatabase_l0_b (N : Nat) (rec_ : (List (ByteArray × Int × Int)) → (List (Int × List Int)) → Int → Option (Bool)) (d2 : List (ByteArray × Int × Int)) (d3 : List (Int × List Int)) (i : Int) : Option (Bool) :=
 bif decide (i < (d3.length : Int)) then
  grd (inb i d3) <|
  (spec_IsValidFact N d2 (at_ (0, []) d3 i)).bind fun r =>
  bif (!r) then some false
  else
  bif decide (i > 0) then
   grd (inb (w64 (i - 1)) d3) <|
   grd (inb i d3) <|
   (spec_CompareFacts N (at_ (0, []) d3 (w64 (i - 1))) (at_ (0, []) d3 i)).bind fun r2 =>
   bif decide (r2 ≥ 0) then some false
   else
   rec_ d2 d3 (w64 (i + 1))
  else
  rec_ d2 d3 (w64 (i + 1))
 else
 (spec_AreValidRelations N d2).bind fun r3 =>
 bif r3 then some (decide ((d3.length : Int) ≤ 14))
 else
 some false
def spec_IsValidDatabase_l0 (N : Nat) : Nat → (List (ByteArray × Int × Int)) → (List (Int × List Int)) → Int → Option (Bool)
 | 0, _, _, _ => none
 | k_ + 1, d2, d3, i => spec_IsValidDatabase_l0_b N (spec_IsValidDatabase_l0 N k_) d2 d3 i
def spec_IsValidDatabase_b (N : Nat) (spec_IsValidDatabase_l0S : (List (ByteArray × Int × Int)) → (List (Int × List Int)) → Int → Option (Bool)) (d : List (ByteArray × Int × Int) × List (Int × List Int)) : Option (Bool) :=
 spec_IsValidDatabase_l0S d.1 d.2 0
def spec_IsValidDatabase (N : Nat) (d : List (ByteArray × Int × Int) × List (Int × List Int)) : Option (Bool) := spec_IsValidDatabase_b N (spec_IsValidDatabase_l0 N N) d
def spec_l27Ok (N : Nat) (d : List (ByteArray × Int × Int) × List (Int × List Int)) (r : Int) (col : Int) : Option (Bool) :=
 (spec_IsValidDatabase N d).bind fun r2 =>
 bif r2 then
  (spec_l1In N r 0 (w64 ((d.1.length : Int) - 1))).bind fun r3 =>
  bif r3 then
   grd (inb r d.1) <|
   (spec_l1In N col 0 (w64 ((((at_ (⟨#[]⟩, (0, 0)) d.1 r).2).1) - 1))).bind fun r4 =>
   some r4
  else
  some false
 else
 some false
def spec_KeyOf (N : Nat) (l : List (ByteArray × Int × Int)) (f : Int × List Int) : Option (List Int) :=
 (spec_IsValidFact N l f).bind fun r =>
 bif (!r) then some []
 else
 grd (inb f.1 l) <|
 grd (subOk 0 (((at_ (⟨#[]⟩, (0, 0)) l f.1).2).2) f.2.length) <|
 grd (appOk [] (f.2.take (((at_ (⟨#[]⟩, (0, 0)) l f.1).2).2).toNat) 8) <|
 some (f.2.take (((at_ (⟨#[]⟩, (0, 0)) l f.1).2).2).toNat)
def spec_HaveSameKey (N : Nat) (l : List (ByteArray × Int × Int)) (a : Int × List Int) (b : Int × List Int) : Option (Bool) :=
 (spec_IsValidFact N l a).bind fun r =>
 bif r then
  (spec_IsValidFact N l b).bind fun r2 =>
  bif r2 then
   bif (a.1 == b.1) then
    (spec_KeyOf N l a).bind fun r3 =>
    (spec_KeyOf N l b).bind fun r4 =>
    (spec_l3Ints N r3 r4).bind fun r5 =>
    some (r5 == 0)
   else
   some false
  else
  some false
 else
 some false
def spec_BlockOf_l0_b (N : Nat) (rec_ : Int → (List (ByteArray × Int × Int)) → (List (Int × List Int)) → (List Int) → Int → Option (List Int)) (i2 : Int) (d2 : List (ByteArray × Int × Int)) (d3 : List (Int × List Int)) (out : List Int) (k : Int) : Option (List Int) :=
 bif decide (k < (d3.length : Int)) then
  (spec_IsValidDatabase N (d2, d3)).bind fun r =>
  bif r then
   (spec_l1In N i2 0 (w64 ((d3.length : Int) - 1))).bind fun r2 =>
   bif r2 then
    grd (inb i2 d3) <|
    grd (inb k d3) <|
    (spec_HaveSameKey N d2 (at_ (0, []) d3 i2) (at_ (0, []) d3 k)).bind fun r3 =>
    bif r3 then
     grd (appOk out [k] 8) <|
     rec_ i2 d2 d3 (out ++ [k]) (w64 (k + 1))
    else
    rec_ i2 d2 d3 out (w64 (k + 1))
   else
   some out
  else
  some out
 else
 some out
def spec_BlockOf_l0 (N : Nat) : Nat → Int → (List (ByteArray × Int × Int)) → (List (Int × List Int)) → (List Int) → Int → Option (List Int)
 | 0, _, _, _, _, _ => none
 | k_ + 1, i2, d2, d3, out, k => spec_BlockOf_l0_b N (spec_BlockOf_l0 N k_) i2 d2 d3 out k
def spec_BlockOf_b (N : Nat) (spec_BlockOf_l0S : Int → (List (ByteArray × Int × Int)) → (List (Int × List Int)) → (List Int) → Int → Option (List Int)) (d : List (ByteArray × Int × Int) × List (Int × List Int)) (i : Int) : Option (List Int) :=
 spec_BlockOf_l0S i d.1 d.2 [] 0
def spec_BlockOf (N : Nat) (d : List (ByteArray × Int × Int) × List (Int × List Int)) (i : Int) : Option (List Int) := spec_BlockOf_b N (spec_BlockOf_l0 N N) d i
def spec_Blocks_l0_b (N : Nat) (rec_ : (List (ByteArray × Int × Int)) → (List (Int × List Int)) → (List (List Int)) → Int → Option (List (List Int))) (d2 : List (ByteArray × Int × Int)) (d3 : List (Int × List Int)) (out : List (List Int)) (i : Int) : Option (List (List Int)) :=
 bif decide (i < (d3.length : Int)) then
  (spec_IsValidDatabase N (d2, d3)).bind fun r =>
  bif r then
   (spec_BlockOf N (d2, d3) i).bind fun r2 =>
   grd (inb 0 r2) <|
   bif ((at_ 0 r2 0) == i) then
    grd (appOk out [r2] 24) <|
    rec_ d2 d3 (out ++ [r2]) (w64 (i + 1))
   else
   rec_ d2 d3 out (w64 (i + 1))
  else
  some out
 else
 some out
def spec_Blocks_l0 (N : Nat) : Nat → (List (ByteArray × Int × Int)) → (List (Int × List Int)) → (List (List Int)) → Int → Option (List (List Int))
 | 0, _, _, _, _ => none
 | k_ + 1, d2, d3, out, i => spec_Blocks_l0_b N (spec_Blocks_l0 N k_) d2 d3 out i
def spec_Blocks_b (N : Nat) (spec_Blocks_l0S : (List (ByteArray × Int × Int)) → (List (Int × List Int)) → (List (List Int)) → Int → Option (List (List Int))) (d : List (ByteArray × Int × Int) × List (Int × List Int)) : Option (List (List Int)) :=
 spec_Blocks_l0S d.1 d.2 [] 0
def spec_Blocks (N : Nat) (d : List (ByteArray × Int × Int) × List (Int × List Int)) : Option (List (List Int)) := spec_Blocks_b N (spec_Blocks_l0 N N) d
def spec_l27Vals_l1_b (N : Nat) (spec_l27Vals_l0R : Int → Int → (List (ByteArray × Int × Int)) → (List (Int × List Int)) → (List (List Int)) → (List (List Int)) → Int → Option (List (List Int))) (rec_ : Int → Int → (List (ByteArray × Int × Int)) → (List (Int × List Int)) → (List (List Int)) → (List (List Int)) → Int → (List Int) → Int → Option (List (List Int))) (r4 : Int) (col3 : Int) (d4 : List (ByteArray × Int × Int)) (d5 : List (Int × List Int)) (out2 : List (List Int)) (b2 : List (List Int)) (i2 : Int) (l : List Int) (k : Int) : Option (List (List Int)) :=
 grd (inb i2 b2) <|
 bif decide (k < ((at_ [] b2 i2).length : Int)) then
  grd (inb i2 b2) <|
  grd (inb k (at_ [] b2 i2)) <|
  grd (inb (at_ 0 (at_ [] b2 i2) k) d5) <|
  grd (inb col3 ((at_ (0, []) d5 (at_ 0 (at_ [] b2 i2) k)).2)) <|
  grd (appOk l [(at_ 0 ((at_ (0, []) d5 (at_ 0 (at_ [] b2 i2) k)).2) col3)] 8) <|
  rec_ r4 col3 d4 d5 out2 b2 i2 (l ++ [(at_ 0 ((at_ (0, []) d5 (at_ 0 (at_ [] b2 i2) k)).2) col3)]) (w64 (k + 1))
 else
 grd (appOk out2 [l] 24) <|
 spec_l27Vals_l0R r4 col3 d4 d5 (out2 ++ [l]) b2 (w64 (i2 + 1))
def spec_l27Vals_l1 (spec_l27Vals_l0R : Int → Int → (List (ByteArray × Int × Int)) → (List (Int × List Int)) → (List (List Int)) → (List (List Int)) → Int → Option (List (List Int))) (N : Nat) : Nat → Int → Int → (List (ByteArray × Int × Int)) → (List (Int × List Int)) → (List (List Int)) → (List (List Int)) → Int → (List Int) → Int → Option (List (List Int))
 | 0, _, _, _, _, _, _, _, _, _ => none
 | k_ + 1, r4, col3, d4, d5, out2, b2, i2, l, k => spec_l27Vals_l1_b N spec_l27Vals_l0R (spec_l27Vals_l1 spec_l27Vals_l0R N k_) r4 col3 d4 d5 out2 b2 i2 l k
def spec_l27Vals_l0_b (N : Nat) (spec_l27Vals_l1S : Int → Int → (List (ByteArray × Int × Int)) → (List (Int × List Int)) → (List (List Int)) → (List (List Int)) → Int → (List Int) → Int → Option (List (List Int))) (rec_ : Int → Int → (List (ByteArray × Int × Int)) → (List (Int × List Int)) → (List (List Int)) → (List (List Int)) → Int → Option (List (List Int))) (r3 : Int) (col2 : Int) (d2 : List (ByteArray × Int × Int)) (d3 : List (Int × List Int)) (out : List (List Int)) (b : List (List Int)) (i : Int) : Option (List (List Int)) :=
 bif decide (i < (b.length : Int)) then
  grd (inb i b) <|
  grd (inb 0 (at_ [] b i)) <|
  grd (inb (at_ 0 (at_ [] b i) 0) d3) <|
  bif (((at_ (0, []) d3 (at_ 0 (at_ [] b i) 0)).1) != r3) then rec_ r3 col2 d2 d3 out b (w64 (i + 1))
  else
  spec_l27Vals_l1S r3 col2 d2 d3 out b i [] 0
 else
 some out
def spec_l27Vals_l0 (N : Nat) : Nat → Int → Int → (List (ByteArray × Int × Int)) → (List (Int × List Int)) → (List (List Int)) → (List (List Int)) → Int → Option (List (List Int))
 | 0, _, _, _, _, _, _, _ => none
 | k_ + 1, r3, col2, d2, d3, out, b, i => spec_l27Vals_l0_b N (spec_l27Vals_l1 (spec_l27Vals_l0 N k_) N N) (spec_l27Vals_l0 N k_) r3 col2 d2 d3 out b i
def spec_l27Vals_b (N : Nat) (spec_l27Vals_l0S : Int → Int → (List (ByteArray × Int × Int)) → (List (Int × List Int)) → (List (List Int)) → (List (List Int)) → Int → Option (List (List Int))) (d : List (ByteArray × Int × Int) × List (Int × List Int)) (r : Int) (col : Int) : Option (List (List Int)) :=
 (spec_Blocks N d).bind fun r2 =>
 spec_l27Vals_l0S r col d.1 d.2 [] r2 0
def spec_l27Vals (N : Nat) (d : List (ByteArray × Int × Int) × List (Int × List Int)) (r : Int) (col : Int) : Option (List (List Int)) := spec_l27Vals_b N (spec_l27Vals_l0 N N) d r col
def spec_CountRange_l1_b (N : Nat) (spec_CountRange_l0R : Int → Int → Int → (List (List Int)) → Int → Option (Int × Int × Bool)) (rec_ : Int → Int → Int → (List (List Int)) → Int → Int → Int → Option (Int × Int × Bool)) (v3 : Int) (lo2 : Int) (hi2 : Int) (l2 : List (List Int)) (i2 : Int) (n : Int) (k : Int) : Option (Int × Int × Bool) :=
 grd (inb i2 l2) <|
 bif decide (k < ((at_ [] l2 i2).length : Int)) then
  grd (inb i2 l2) <|
  grd (inb k (at_ [] l2 i2)) <|
  bif ((at_ 0 (at_ [] l2 i2) k) == v3) then rec_ v3 lo2 hi2 l2 i2 (w64 (n + 1)) (w64 (k + 1))
  else
  rec_ v3 lo2 hi2 l2 i2 n (w64 (k + 1))
 else
 bif decide (n > 0) then
  grd (inb i2 l2) <|
  bif (n == ((at_ [] l2 i2).length : Int)) then
   spec_CountRange_l0R v3 (w64 (lo2 + 1)) (w64 (hi2 + 1)) l2 (w64 (i2 + 1))
  else
  spec_CountRange_l0R v3 lo2 (w64 (hi2 + 1)) l2 (w64 (i2 + 1))
 else
 grd (inb i2 l2) <|
 bif (n == ((at_ [] l2 i2).length : Int)) then spec_CountRange_l0R v3 (w64 (lo2 + 1)) hi2 l2 (w64 (i2 + 1))
 else
 spec_CountRange_l0R v3 lo2 hi2 l2 (w64 (i2 + 1))
def spec_CountRange_l1 (spec_CountRange_l0R : Int → Int → Int → (List (List Int)) → Int → Option (Int × Int × Bool)) (N : Nat) : Nat → Int → Int → Int → (List (List Int)) → Int → Int → Int → Option (Int × Int × Bool)
 | 0, _, _, _, _, _, _, _ => none
 | k_ + 1, v3, lo2, hi2, l2, i2, n, k => spec_CountRange_l1_b N spec_CountRange_l0R (spec_CountRange_l1 spec_CountRange_l0R N k_) v3 lo2 hi2 l2 i2 n k
def spec_CountRange_l0_b (N : Nat) (spec_CountRange_l1S : Int → Int → Int → (List (List Int)) → Int → Int → Int → Option (Int × Int × Bool)) (rec_ : Int → Int → Int → (List (List Int)) → Int → Option (Int × Int × Bool)) (v2 : Int) (lo : Int) (hi : Int) (l : List (List Int)) (i : Int) : Option (Int × Int × Bool) :=
 bif decide (i < (l.length : Int)) then spec_CountRange_l1S v2 lo hi l i 0 0
 else
 some (lo, hi, true)
def spec_CountRange_l0 (N : Nat) : Nat → Int → Int → Int → (List (List Int)) → Int → Option (Int × Int × Bool)
 | 0, _, _, _, _, _ => none
 | k_ + 1, v2, lo, hi, l, i => spec_CountRange_l0_b N (spec_CountRange_l1 (spec_CountRange_l0 N k_) N N) (spec_CountRange_l0 N k_) v2 lo hi l i
def spec_CountRange_b (N : Nat) (spec_CountRange_l0S : Int → Int → Int → (List (List Int)) → Int → Option (Int × Int × Bool)) (d : List (ByteArray × Int × Int) × List (Int × List Int)) (r : Int) (col : Int) (v : Int) : Option (Int × Int × Bool) :=
 (spec_l27Ok N d r col).bind fun r2 =>
 bif (!r2) then some (0, 0, false)
 else
 (spec_l27Vals N d r col).bind fun r3 =>
 spec_CountRange_l0S v 0 0 r3 0
def spec_CountRange (N : Nat) (d : List (ByteArray × Int × Int) × List (Int × List Int)) (r : Int) (col : Int) (v : Int) : Option (Int × Int × Bool) := spec_CountRange_b N (spec_CountRange_l0 N N) d r col v
def spec_l27Least_l0_b (N : Nat) (rec_ : (List Int) → Int → Int → Option (Int)) (l2 : List Int) (n : Int) (i : Int) : Option (Int) :=
 bif decide (i < (l2.length : Int)) then
  grd (inb i l2) <|
  rec_ l2 (imin n (at_ 0 l2 i)) (w64 (i + 1))
 else
 some n
def spec_l27Least_l0 (N : Nat) : Nat → (List Int) → Int → Int → Option (Int)
 | 0, _, _, _ => none
 | k_ + 1, l2, n, i => spec_l27Least_l0_b N (spec_l27Least_l0 N k_) l2 n i
def spec_l27Least_b (N : Nat) (spec_l27Least_l0S : (List Int) → Int → Int → Option (Int)) (l : List Int) : Option (Int) :=
 grd (inb 0 l) <|
 spec_l27Least_l0S l (at_ 0 l 0) 1
def spec_l27Least (N : Nat) (l : List Int) : Option (Int) := spec_l27Least_b N (spec_l27Least_l0 N N) l
def spec_l27Most_l0_b (N : Nat) (rec_ : (List Int) → Int → Int → Option (Int)) (l2 : List Int) (n : Int) (i : Int) : Option (Int) :=
 bif decide (i < (l2.length : Int)) then
  grd (inb i l2) <|
  rec_ l2 (imax n (at_ 0 l2 i)) (w64 (i + 1))
 else
 some n
def spec_l27Most_l0 (N : Nat) : Nat → (List Int) → Int → Int → Option (Int)
 | 0, _, _, _ => none
 | k_ + 1, l2, n, i => spec_l27Most_l0_b N (spec_l27Most_l0 N k_) l2 n i
def spec_l27Most_b (N : Nat) (spec_l27Most_l0S : (List Int) → Int → Int → Option (Int)) (l : List Int) : Option (Int) :=
 grd (inb 0 l) <|
 spec_l27Most_l0S l (at_ 0 l 0) 1
def spec_l27Most (N : Nat) (l : List Int) : Option (Int) := spec_l27Most_b N (spec_l27Most_l0 N N) l
def spec_GroupSumRange_l1_b (N : Nat) (spec_GroupSumRange_l0R : Int → Int → Int → Int → (List (ByteArray × Int × Int)) → (List (Int × List Int)) → Int → Int → (List (List Int)) → Int → Option (Int × Int × Bool)) (rec_ : Int → Int → Int → Int → (List (ByteArray × Int × Int)) → (List (Int × List Int)) → Int → Int → (List (List Int)) → Int → (List Int) → Int → Option (Int × Int × Bool)) (r6 : Int) (by_3 : Int) (col3 : Int) (v3 : Int) (d4 : List (ByteArray × Int × Int)) (d5 : List (Int × List Int)) (lo2 : Int) (hi2 : Int) (b2 : List (List Int)) (i2 : Int) (l : List Int) (k : Int) : Option (Int × Int × Bool) :=
 grd (inb i2 b2) <|
 bif decide (k < ((at_ [] b2 i2).length : Int)) then
  grd (inb i2 b2) <|
  grd (inb k (at_ [] b2 i2)) <|
  grd (inb (at_ 0 (at_ [] b2 i2) k) d5) <|
  grd (inb by_3 ((at_ (0, []) d5 (at_ 0 (at_ [] b2 i2) k)).2)) <|
  bif ((at_ 0 ((at_ (0, []) d5 (at_ 0 (at_ [] b2 i2) k)).2) by_3) == v3) then
   grd (inb i2 b2) <|
   grd (inb k (at_ [] b2 i2)) <|
   grd (inb (at_ 0 (at_ [] b2 i2) k) d5) <|
   grd (inb col3 ((at_ (0, []) d5 (at_ 0 (at_ [] b2 i2) k)).2)) <|
   grd (appOk l [(at_ 0 ((at_ (0, []) d5 (at_ 0 (at_ [] b2 i2) k)).2) col3)] 8) <|
   rec_ r6 by_3 col3 v3 d4 d5 lo2 hi2 b2 i2 (l ++ [(at_ 0 ((at_ (0, []) d5 (at_ 0 (at_ [] b2 i2) k)).2) col3)]) (w64 (k + 1))
  else
  grd (appOk l [0] 8) <|
  rec_ r6 by_3 col3 v3 d4 d5 lo2 hi2 b2 i2 (l ++ [0]) (w64 (k + 1))
 else
 (spec_l27Least N l).bind fun r7 =>
 (spec_l27Most N l).bind fun r8 =>
 spec_GroupSumRange_l0R r6 by_3 col3 v3 d4 d5 (w64 (lo2 + r7)) (w64 (hi2 + r8)) b2 (w64 (i2 + 1))
def spec_GroupSumRange_l1 (spec_GroupSumRange_l0R : Int → Int → Int → Int → (List (ByteArray × Int × Int)) → (List (Int × List Int)) → Int → Int → (List (List Int)) → Int → Option (Int × Int × Bool)) (N : Nat) : Nat → Int → Int → Int → Int → (List (ByteArray × Int × Int)) → (List (Int × List Int)) → Int → Int → (List (List Int)) → Int → (List Int) → Int → Option (Int × Int × Bool)
 | 0, _, _, _, _, _, _, _, _, _, _, _, _ => none
 | k_ + 1, r6, by_3, col3, v3, d4, d5, lo2, hi2, b2, i2, l, k => spec_GroupSumRange_l1_b N spec_GroupSumRange_l0R (spec_GroupSumRange_l1 spec_GroupSumRange_l0R N k_) r6 by_3 col3 v3 d4 d5 lo2 hi2 b2 i2 l k
def spec_GroupSumRange_l0_b (N : Nat) (spec_GroupSumRange_l1S : Int → Int → Int → Int → (List (ByteArray × Int × Int)) → (List (Int × List Int)) → Int → Int → (List (List Int)) → Int → (List Int) → Int → Option (Int × Int × Bool)) (rec_ : Int → Int → Int → Int → (List (ByteArray × Int × Int)) → (List (Int × List Int)) → Int → Int → (List (List Int)) → Int → Option (Int × Int × Bool)) (r5 : Int) (by_2 : Int) (col2 : Int) (v2 : Int) (d2 : List (ByteArray × Int × Int)) (d3 : List (Int × List Int)) (lo : Int) (hi : Int) (b : List (List Int)) (i : Int) : Option (Int × Int × Bool) :=
 bif decide (i < (b.length : Int)) then
  grd (inb i b) <|
  grd (inb 0 (at_ [] b i)) <|
  grd (inb (at_ 0 (at_ [] b i) 0) d3) <|
  bif (((at_ (0, []) d3 (at_ 0 (at_ [] b i) 0)).1) != r5) then rec_ r5 by_2 col2 v2 d2 d3 lo hi b (w64 (i + 1))
  else
  spec_GroupSumRange_l1S r5 by_2 col2 v2 d2 d3 lo hi b i [] 0
 else
 some (lo, hi, true)
def spec_GroupSumRange_l0 (N : Nat) : Nat → Int → Int → Int → Int → (List (ByteArray × Int × Int)) → (List (Int × List Int)) → Int → Int → (List (List Int)) → Int → Option (Int × Int × Bool)
 | 0, _, _, _, _, _, _, _, _, _, _ => none
 | k_ + 1, r5, by_2, col2, v2, d2, d3, lo, hi, b, i => spec_GroupSumRange_l0_b N (spec_GroupSumRange_l1 (spec_GroupSumRange_l0 N k_) N N) (spec_GroupSumRange_l0 N k_) r5 by_2 col2 v2 d2 d3 lo hi b i
def spec_GroupSumRange_b (N : Nat) (spec_GroupSumRange_l0S : Int → Int → Int → Int → (List (ByteArray × Int × Int)) → (List (Int × List Int)) → Int → Int → (List (List Int)) → Int → Option (Int × Int × Bool)) (d : List (ByteArray × Int × Int) × List (Int × List Int)) (r : Int) (by_ : Int) (col : Int) (v : Int) : Option (Int × Int × Bool) :=
 (spec_l27Ok N d r col).bind fun r2 =>
 bif (!r2) then some (0, 0, false)
 else
 (spec_l27Ok N d r by_).bind fun r3 =>
 bif (!r3) then some (0, 0, false)
 else
 (spec_Blocks N d).bind fun r4 =>
 spec_GroupSumRange_l0S r by_ col v d.1 d.2 0 0 r4 0
def spec_GroupSumRange (N : Nat) (d : List (ByteArray × Int × Int) × List (Int × List Int)) (r : Int) (by_ : Int) (col : Int) (v : Int) : Option (Int × Int × Bool) := spec_GroupSumRange_b N (spec_GroupSumRange_l0 N N) d r by_ col v
def spec_GroupInAllRepairs (N : Nat) (d : List (ByteArray × Int × Int) × List (Int × List Int)) (r : Int) (by_ : Int) (v : Int) : Option (Bool) :=
 (spec_CountRange N d r by_ v).bind fun p_r2 =>
 bif p_r2.2.2 then some (decide (p_r2.1 > 0))
 else
 some false
def spec_GroupRanges_l0_b (N : Nat) (rec_ : Int → Int → Int → (List (ByteArray × Int × Int)) → (List (Int × List Int)) → (List (Int × Int × Int × Bool)) → Int → Option ((List (Int × Int × Int × Bool)) × Bool)) (r4 : Int) (by_2 : Int) (col2 : Int) (d2 : List (ByteArray × Int × Int)) (d3 : List (Int × List Int)) (out : List (Int × Int × Int × Bool)) (v : Int) : Option ((List (Int × Int × Int × Bool)) × Bool) :=
 bif decide (v ≤ 9) then
  (spec_CountRange N (d2, d3) r4 by_2 v).bind fun p_r5 =>
  bif (p_r5.2.1 == 0) then rec_ r4 by_2 col2 d2 d3 out (w64 (v + 1))
  else
  (spec_GroupSumRange N (d2, d3) r4 by_2 col2 v).bind fun p_r8 =>
  (spec_GroupInAllRepairs N (d2, d3) r4 by_2 v).bind fun r11 =>
  grd (appOk out [(v, p_r8.1, p_r8.2.1, r11)] 32) <|
  rec_ r4 by_2 col2 d2 d3 (out ++ [(v, p_r8.1, p_r8.2.1, r11)]) (w64 (v + 1))
 else
 some (out, true)
def spec_GroupRanges_l0 (N : Nat) : Nat → Int → Int → Int → (List (ByteArray × Int × Int)) → (List (Int × List Int)) → (List (Int × Int × Int × Bool)) → Int → Option ((List (Int × Int × Int × Bool)) × Bool)
 | 0, _, _, _, _, _, _, _ => none
 | k_ + 1, r4, by_2, col2, d2, d3, out, v => spec_GroupRanges_l0_b N (spec_GroupRanges_l0 N k_) r4 by_2 col2 d2 d3 out v
def spec_GroupRanges_b (N : Nat) (spec_GroupRanges_l0S : Int → Int → Int → (List (ByteArray × Int × Int)) → (List (Int × List Int)) → (List (Int × Int × Int × Bool)) → Int → Option ((List (Int × Int × Int × Bool)) × Bool)) (d : List (ByteArray × Int × Int) × List (Int × List Int)) (r : Int) (by_ : Int) (col : Int) : Option ((List (Int × Int × Int × Bool)) × Bool) :=
 (spec_l27Ok N d r col).bind fun r2 =>
 bif (!r2) then some ([], false)
 else
 (spec_l27Ok N d r by_).bind fun r3 =>
 bif (!r3) then some ([], false)
 else
 spec_GroupRanges_l0S r by_ col d.1 d.2 [] 0
def spec_GroupRanges (N : Nat) (d : List (ByteArray × Int × Int) × List (Int × List Int)) (r : Int) (by_ : Int) (col : Int) : Option ((List (Int × Int × Int × Bool)) × Bool) := spec_GroupRanges_b N (spec_GroupRanges_l0 N N) d r by_ col
def impl_within (N : Nat) (n : Int) (low : Int) (high : Int) : Option (Bool) :=
 bif decide (low ≤ n) then some (decide (n ≤ high))
 else
 some false
def impl_IsValidRelation (N : Nat) (relation : ByteArray × Int × Int) : Option (Bool) :=
 bif ((relation.1.size : Int) == 1) then
  (byteAt relation.1 0).bind fun b =>
  bif decide ((b.toNat : Int) ≥ 97) then
   (byteAt relation.1 0).bind fun b2 =>
   bif decide ((b2.toNat : Int) ≤ 122) then
    (impl_within N relation.2.1 1 3).bind fun r =>
    bif r then
     (impl_within N relation.2.2 0 relation.2.1).bind fun r2 =>
     some r2
    else
    some false
   else
   some false
  else
  some false
 else
 some false
def impl_AreValidRelations_l0_b (N : Nat) (rec_ : (List (ByteArray × Int × Int)) → (List (ByteArray × Int × Int)) → Int → Int → Option (Bool)) (relations2 : List (ByteArray × Int × Int)) (t5 : List (ByteArray × Int × Int)) (t6 : Int) (t7 : Int) : Option (Bool) :=
 bif decide (t7 < t6) then
  grd (inb t7 t5) <|
  (impl_IsValidRelation N ((at_ (⟨#[]⟩, (0, 0)) t5 t7).1, ((at_ (⟨#[]⟩, (0, 0)) t5 t7).2))).bind fun r =>
  bif (!r) then some false
  else
  bif decide (t7 > 0) then
   grd (inb (w64 (t7 - 1)) relations2) <|
   bif (!slt ((at_ (⟨#[]⟩, (0, 0)) relations2 (w64 (t7 - 1))).1) ((at_ (⟨#[]⟩, (0, 0)) t5 t7).1)) then some false
   else
   rec_ relations2 t5 t6 (w64 (t7 + 1))
  else
  rec_ relations2 t5 t6 (w64 (t7 + 1))
 else
 some (decide ((relations2.length : Int) ≤ 4))
def impl_AreValidRelations_l0 (N : Nat) : Nat → (List (ByteArray × Int × Int)) → (List (ByteArray × Int × Int)) → Int → Int → Option (Bool)
 | 0, _, _, _, _ => none
 | k_ + 1, relations2, t5, t6, t7 => impl_AreValidRelations_l0_b N (impl_AreValidRelations_l0 N k_) relations2 t5 t6 t7
def impl_AreValidRelations_b (N : Nat) (impl_AreValidRelations_l0S : (List (ByteArray × Int × Int)) → (List (ByteArray × Int × Int)) → Int → Int → Option (Bool)) (relations : List (ByteArray × Int × Int)) : Option (Bool) :=
 impl_AreValidRelations_l0S relations relations (relations.length : Int) 0
def impl_AreValidRelations (N : Nat) (relations : List (ByteArray × Int × Int)) : Option (Bool) := impl_AreValidRelations_b N (impl_AreValidRelations_l0 N N) relations
def impl_areValues_c1 (N : Nat) (v : Int) : Option (Bool) :=
 (impl_within N v 0 9).bind fun r =>
 some (!r)
def slices_IndexFunc_Lint_int_areValues_c1_l0_b (N : Nat) (rec_ : (List Int) → Int → Int → Option (Int)) (s2 : List Int) (t7 : Int) (t8 : Int) : Option (Int) :=
 bif decide (t8 < t7) then
  grd (inb t8 s2) <|
  (impl_areValues_c1 N (at_ 0 s2 t8)).bind fun r =>
  bif r then some t8
  else
  rec_ s2 t7 (w64 (t8 + 1))
 else
 some (-1)
def slices_IndexFunc_Lint_int_areValues_c1_l0 (N : Nat) : Nat → (List Int) → Int → Int → Option (Int)
 | 0, _, _, _ => none
 | k_ + 1, s2, t7, t8 => slices_IndexFunc_Lint_int_areValues_c1_l0_b N (slices_IndexFunc_Lint_int_areValues_c1_l0 N k_) s2 t7 t8
def slices_IndexFunc_Lint_int_areValues_c1_b (N : Nat) (slices_IndexFunc_Lint_int_areValues_c1_l0S : (List Int) → Int → Int → Option (Int)) (s : List Int) : Option (Int) :=
 slices_IndexFunc_Lint_int_areValues_c1_l0S s (s.length : Int) 0
def slices_IndexFunc_Lint_int_areValues_c1 (N : Nat) (s : List Int) : Option (Int) := slices_IndexFunc_Lint_int_areValues_c1_b N (slices_IndexFunc_Lint_int_areValues_c1_l0 N N) s
def slices_ContainsFunc_Lint_int_areValues_c1 (N : Nat) (s : List Int) : Option (Bool) :=
 (slices_IndexFunc_Lint_int_areValues_c1 N s).bind fun r =>
 some (decide (r ≥ 0))
def impl_areValues (N : Nat) (list : List Int) : Option (Bool) :=
 (slices_ContainsFunc_Lint_int_areValues_c1 N list).bind fun r =>
 some (!r)
def impl_isFact (N : Nat) (relations : List (ByteArray × Int × Int)) (fact : Int × List Int) : Option (Bool) :=
 (impl_within N fact.1 0 (w64 ((relations.length : Int) - 1))).bind fun r =>
 bif r then
  grd (inb fact.1 relations) <|
  bif ((fact.2.length : Int) == (((at_ (⟨#[]⟩, (0, 0)) relations fact.1).2).1)) then
   (impl_areValues N fact.2).bind fun r2 =>
   some r2
  else
  some false
 else
 some false
def impl_compare (N : Nat) (a : Int) (b : Int) : Option (Int) :=
 bif decide (a < b) then some (-1)
 else
 bif decide (a > b) then some 1
 else
 some 0
def cmp_isNaN_int (N : Nat) (x : Int) : Option (Bool) :=
 some (x != x)
def cmp_Compare_int (N : Nat) (x : Int) (y : Int) : Option (Int) :=
 (cmp_isNaN_int N x).bind fun r =>
 (cmp_isNaN_int N y).bind fun r2 =>
 bif r then
  bif r2 then some 0
  else
  some (-1)
 else
 bif r2 then some 1
 else
 bif decide (x < y) then some (-1)
 else
 bif decide (x > y) then some 1
 else
 some 0
def slices_Compare_Lint_int_l0_b (N : Nat) (rec_ : (List Int) → (List Int) → (List Int) → Int → Int → Option (Int)) (s12 : List Int) (s22 : List Int) (t9 : List Int) (t10 : Int) (t11 : Int) : Option (Int) :=
 bif decide (t11 < t10) then
  grd (inb t11 t9) <|
  bif decide (t11 ≥ (s22.length : Int)) then some 1
  else
  grd (inb t11 s22) <|
  (cmp_Compare_int N (at_ 0 t9 t11) (at_ 0 s22 t11)).bind fun r =>
  bif (r != 0) then some r
  else
  rec_ s12 s22 t9 t10 (w64 (t11 + 1))
 else
 bif decide ((s12.length : Int) < (s22.length : Int)) then some (-1)
 else
 some 0
def slices_Compare_Lint_int_l0 (N : Nat) : Nat → (List Int) → (List Int) → (List Int) → Int → Int → Option (Int)
 | 0, _, _, _, _, _ => none
 | k_ + 1, s12, s22, t9, t10, t11 => slices_Compare_Lint_int_l0_b N (slices_Compare_Lint_int_l0 N k_) s12 s22 t9 t10 t11
def slices_Compare_Lint_int_b (N : Nat) (slices_Compare_Lint_int_l0S : (List Int) → (List Int) → (List Int) → Int → Int → Option (Int)) (s1 : List Int) (s2 : List Int) : Option (Int) :=
 slices_Compare_Lint_int_l0S s1 s2 s1 (s1.length : Int) 0
def slices_Compare_Lint_int (N : Nat) (s1 : List Int) (s2 : List Int) : Option (Int) := slices_Compare_Lint_int_b N (slices_Compare_Lint_int_l0 N N) s1 s2
def impl_CompareFacts (N : Nat) (a : Int × List Int) (b : Int × List Int) : Option (Int) :=
 bif (a.1 != b.1) then
  (impl_compare N a.1 b.1).bind fun r =>
  some r
 else
 (slices_Compare_Lint_int N a.2 b.2).bind fun r2 =>
 some r2
def impl_IsValidDatabase_l0_b (N : Nat) (rec_ : (List (ByteArray × Int × Int)) → (List (Int × List Int)) → (List (Int × List Int)) → Int → Int → Option (Bool)) (db2 : List (ByteArray × Int × Int)) (db3 : List (Int × List Int)) (t16 : List (Int × List Int)) (t17 : Int) (t18 : Int) : Option (Bool) :=
 bif decide (t18 < t17) then
  grd (inb t18 t16) <|
  (impl_isFact N db2 (at_ (0, []) t16 t18)).bind fun r2 =>
  bif (!r2) then some false
  else
  bif decide (t18 > 0) then
   grd (inb (w64 (t18 - 1)) db3) <|
   (impl_CompareFacts N (at_ (0, []) db3 (w64 (t18 - 1))) (at_ (0, []) t16 t18)).bind fun r3 =>
   bif decide (r3 ≥ 0) then some false
   else
   rec_ db2 db3 t16 t17 (w64 (t18 + 1))
  else
  rec_ db2 db3 t16 t17 (w64 (t18 + 1))
 else
 some true
def impl_IsValidDatabase_l0 (N : Nat) : Nat → (List (ByteArray × Int × Int)) → (List (Int × List Int)) → (List (Int × List Int)) → Int → Int → Option (Bool)
 | 0, _, _, _, _, _ => none
 | k_ + 1, db2, db3, t16, t17, t18 => impl_IsValidDatabase_l0_b N (impl_IsValidDatabase_l0 N k_) db2 db3 t16 t17 t18
def impl_IsValidDatabase_b (N : Nat) (impl_IsValidDatabase_l0S : (List (ByteArray × Int × Int)) → (List (Int × List Int)) → (List (Int × List Int)) → Int → Int → Option (Bool)) (db : List (ByteArray × Int × Int) × List (Int × List Int)) : Option (Bool) :=
 (impl_AreValidRelations N db.1).bind fun r =>
 bif (!r) then some false
 else
 bif decide ((db.2.length : Int) > 14) then some false
 else
 impl_IsValidDatabase_l0S db.1 db.2 db.2 (db.2.length : Int) 0
def impl_IsValidDatabase (N : Nat) (db : List (ByteArray × Int × Int) × List (Int × List Int)) : Option (Bool) := impl_IsValidDatabase_b N (impl_IsValidDatabase_l0 N N) db
def impl_isColumn (N : Nat) (db : List (ByteArray × Int × Int) × List (Int × List Int)) (relation : Int) (column : Int) : Option (Bool) :=
 (impl_IsValidDatabase N db).bind fun r =>
 bif r then
  (impl_within N relation 0 (w64 ((db.1.length : Int) - 1))).bind fun r2 =>
  bif r2 then
   grd (inb relation db.1) <|
   (impl_within N column 0 (w64 ((((at_ (⟨#[]⟩, (0, 0)) db.1 relation).2).1) - 1))).bind fun r3 =>
   some r3
  else
  some false
 else
 some false
def impl_columnOf_l0_b (N : Nat) (rec_ : Int → Int → (List (ByteArray × Int × Int)) → (List (Int × List Int)) → (List Int) → (List Int) → Int → Int → Option (List Int)) (relation2 : Int) (column2 : Int) (db2 : List (ByteArray × Int × Int)) (db3 : List (Int × List Int)) (out : List Int) (t13 : List Int) (t14 : Int) (t15 : Int) : Option (List Int) :=
 bif decide (t15 < t14) then
  grd (inb t15 t13) <|
  grd (inb (at_ 0 t13 t15) db3) <|
  bif (((at_ (0, []) db3 (at_ 0 t13 t15)).1) == relation2) then
   grd (inb (at_ 0 t13 t15) db3) <|
   grd (inb column2 ((at_ (0, []) db3 (at_ 0 t13 t15)).2)) <|
   grd (appOk out [(at_ 0 ((at_ (0, []) db3 (at_ 0 t13 t15)).2) column2)] 8) <|
   rec_ relation2 column2 db2 db3 (out ++ [(at_ 0 ((at_ (0, []) db3 (at_ 0 t13 t15)).2) column2)]) t13 t14 (w64 (t15 + 1))
  else
  rec_ relation2 column2 db2 db3 out t13 t14 (w64 (t15 + 1))
 else
 some out
def impl_columnOf_l0 (N : Nat) : Nat → Int → Int → (List (ByteArray × Int × Int)) → (List (Int × List Int)) → (List Int) → (List Int) → Int → Int → Option (List Int)
 | 0, _, _, _, _, _, _, _, _ => none
 | k_ + 1, relation2, column2, db2, db3, out, t13, t14, t15 => impl_columnOf_l0_b N (impl_columnOf_l0 N k_) relation2 column2 db2 db3 out t13 t14 t15
def impl_columnOf_b (N : Nat) (impl_columnOf_l0S : Int → Int → (List (ByteArray × Int × Int)) → (List (Int × List Int)) → (List Int) → (List Int) → Int → Int → Option (List Int)) (db : List (ByteArray × Int × Int) × List (Int × List Int)) (indices : List Int) (relation : Int) (column : Int) : Option (List Int) :=
 impl_columnOf_l0S relation column db.1 db.2 [] indices (indices.length : Int) 0
def impl_columnOf (N : Nat) (db : List (ByteArray × Int × Int) × List (Int × List Int)) (indices : List Int) (relation : Int) (column : Int) : Option (List Int) := impl_columnOf_b N (impl_columnOf_l0 N N) db indices relation column
def slices_Concat_Lint_int_l1_b (N : Nat) (rec_ : (List Int) → (List (List Int)) → Int → Int → Option (List Int)) (newslice : List Int) (t25 : List (List Int)) (t26 : Int) (t27 : Int) : Option (List Int) :=
 bif decide (t27 < t26) then
  grd (inb t27 t25) <|
  grd (appOk newslice (at_ [] t25 t27) 8) <|
  rec_ (newslice ++ (at_ [] t25 t27)) t25 t26 (w64 (t27 + 1))
 else
 some newslice
def slices_Concat_Lint_int_l1 (N : Nat) : Nat → (List Int) → (List (List Int)) → Int → Int → Option (List Int)
 | 0, _, _, _, _ => none
 | k_ + 1, newslice, t25, t26, t27 => slices_Concat_Lint_int_l1_b N (slices_Concat_Lint_int_l1 N k_) newslice t25 t26 t27
def slices_Concat_Lint_int_l0_b (N : Nat) (slices_Concat_Lint_int_l1S : (List Int) → (List (List Int)) → Int → Int → Option (List Int)) (rec_ : (List (List Int)) → Int → (List (List Int)) → Int → Int → Option (List Int)) (slices2 : List (List Int)) (size : Int) (t9 : List (List Int)) (t10 : Int) (t11 : Int) : Option (List Int) :=
 bif decide (t11 < t10) then
  grd (inb t11 t9) <|
  bif decide ((w64 (size + ((at_ [] t9 t11).length : Int))) < 0) then none
  else
  rec_ slices2 (w64 (size + ((at_ [] t9 t11).length : Int))) t9 t10 (w64 (t11 + 1))
 else
 (slices_Grow_Lint_int N [] size).bind fun r =>
 slices_Concat_Lint_int_l1S r slices2 (slices2.length : Int) 0
def slices_Concat_Lint_int_l0 (N : Nat) : Nat → (List (List Int)) → Int → (List (List Int)) → Int → Int → Option (List Int)
 | 0, _, _, _, _, _ => none
 | k_ + 1, slices2, size, t9, t10, t11 => slices_Concat_Lint_int_l0_b N (slices_Concat_Lint_int_l1 N N) (slices_Concat_Lint_int_l0 N k_) slices2 size t9 t10 t11
def slices_Concat_Lint_int_b (N : Nat) (slices_Concat_Lint_int_l0S : (List (List Int)) → Int → (List (List Int)) → Int → Int → Option (List Int)) (slices : List (List Int)) : Option (List Int) :=
 slices_Concat_Lint_int_l0S slices 0 slices (slices.length : Int) 0
def slices_Concat_Lint_int (N : Nat) (slices : List (List Int)) : Option (List Int) := slices_Concat_Lint_int_b N (slices_Concat_Lint_int_l0 N N) slices
def impl_union (N : Nat) (a : List Int) (b : List Int) : Option (List Int) :=
 (slices_Concat_Lint_int N [a, b]).bind fun r =>
 (slices_Sort_Lint_int N r).bind fun m =>
 (slices_Compact_Lint_int N m).bind fun r2 =>
 some r2
def slices_Equal_Lint_int_l0_b (N : Nat) (rec_ : (List Int) → (List Int) → Int → Int → Option (Bool)) (s12 : List Int) (s22 : List Int) (t12 : Int) (t13 : Int) : Option (Bool) :=
 bif decide (t13 < t12) then
  grd (inb t13 s12) <|
  grd (inb t13 s22) <|
  bif ((at_ 0 s12 t13) != (at_ 0 s22 t13)) then some false
  else
  rec_ s12 s22 t12 (w64 (t13 + 1))
 else
 some true
def slices_Equal_Lint_int_l0 (N : Nat) : Nat → (List Int) → (List Int) → Int → Int → Option (Bool)
 | 0, _, _, _, _ => none
 | k_ + 1, s12, s22, t12, t13 => slices_Equal_Lint_int_l0_b N (slices_Equal_Lint_int_l0 N k_) s12 s22 t12 t13
def slices_Equal_Lint_int_b (N : Nat) (slices_Equal_Lint_int_l0S : (List Int) → (List Int) → Int → Int → Option (Bool)) (s1 : List Int) (s2 : List Int) : Option (Bool) :=
 bif ((s1.length : Int) != (s2.length : Int)) then some false
 else
 slices_Equal_Lint_int_l0S s1 s2 (s1.length : Int) 0
def slices_Equal_Lint_int (N : Nat) (s1 : List Int) (s2 : List Int) : Option (Bool) := slices_Equal_Lint_int_b N (slices_Equal_Lint_int_l0 N N) s1 s2
def impl_sameKey (N : Nat) (relations : List (ByteArray × Int × Int)) (a : Int × List Int) (b : Int × List Int) : Option (Bool) :=
 bif (a.1 != b.1) then some false
 else
 grd (inb a.1 relations) <|
 grd (subOk 0 (((at_ (⟨#[]⟩, (0, 0)) relations a.1).2).2) a.2.length) <|
 grd (subOk 0 (((at_ (⟨#[]⟩, (0, 0)) relations a.1).2).2) b.2.length) <|
 (slices_Equal_Lint_int N (a.2.take (((at_ (⟨#[]⟩, (0, 0)) relations a.1).2).2).toNat) (b.2.take (((at_ (⟨#[]⟩, (0, 0)) relations a.1).2).2).toNat)).bind fun r =>
 some r
def impl_blocks_l0_b (N : Nat) (rec_ : (List (ByteArray × Int × Int)) → (List (Int × List Int)) → (List (List Int)) → (List (Int × List Int)) → Int → Int → Option (List (List Int))) (db2 : List (ByteArray × Int × Int)) (db3 : List (Int × List Int)) (out : List (List Int)) (t9 : List (Int × List Int)) (t10 : Int) (t11 : Int) : Option (List (List Int)) :=
 bif decide (t11 < t10) then
  grd (inb t11 t9) <|
  bif decide ((w64 ((out.length : Int) - 1)) ≥ 0) then
   grd (inb (w64 ((out.length : Int) - 1)) out) <|
   grd (inb 0 (at_ [] out (w64 ((out.length : Int) - 1)))) <|
   grd (inb (at_ 0 (at_ [] out (w64 ((out.length : Int) - 1))) 0) db3) <|
   (impl_sameKey N db2 (at_ (0, []) db3 (at_ 0 (at_ [] out (w64 ((out.length : Int) - 1))) 0)) (at_ (0, []) t9 t11)).bind fun r =>
   bif r then
    grd (inb (w64 ((out.length : Int) - 1)) out) <|
    grd (inb (w64 ((out.length : Int) - 1)) out) <|
    grd (appOk (at_ [] out (w64 ((out.length : Int) - 1))) [t11] 8) <|
    grd (inb (w64 ((out.length : Int) - 1)) out) <|
    grd (growOk (w64 ((out.length : Int) - 1)) (w64 ((out.length : Int) - 1)) out) <|
    letv (out.set (w64 ((out.length : Int) - 1)).toNat ((at_ [] out (w64 ((out.length : Int) - 1))) ++ [t11])) fun u =>
    rec_ db2 db3 u t9 t10 (w64 (t11 + 1))
   else
   grd (appOk out [[t11]] 24) <|
   rec_ db2 db3 (out ++ [[t11]]) t9 t10 (w64 (t11 + 1))
  else
  grd (appOk out [[t11]] 24) <|
  rec_ db2 db3 (out ++ [[t11]]) t9 t10 (w64 (t11 + 1))
 else
 some out
def impl_blocks_l0 (N : Nat) : Nat → (List (ByteArray × Int × Int)) → (List (Int × List Int)) → (List (List Int)) → (List (Int × List Int)) → Int → Int → Option (List (List Int))
 | 0, _, _, _, _, _, _ => none
 | k_ + 1, db2, db3, out, t9, t10, t11 => impl_blocks_l0_b N (impl_blocks_l0 N k_) db2 db3 out t9 t10 t11
def impl_blocks_b (N : Nat) (impl_blocks_l0S : (List (ByteArray × Int × Int)) → (List (Int × List Int)) → (List (List Int)) → (List (Int × List Int)) → Int → Int → Option (List (List Int))) (db : List (ByteArray × Int × Int) × List (Int × List Int)) : Option (List (List Int)) :=
 impl_blocks_l0S db.1 db.2 [] db.2 (db.2.length : Int) 0
def impl_blocks (N : Nat) (db : List (ByteArray × Int × Int) × List (Int × List Int)) : Option (List (List Int)) := impl_blocks_b N (impl_blocks_l0 N N) db
def impl_nthRepair_l0_b (N : Nat) (rec_ : (List (List Int)) → Int → (List Int) → Int → Option (List Int)) (list2 : List (List Int)) (rank2 : Int) (out : List Int) (i : Int) : Option (List Int) :=
 bif decide (i ≥ 0) then
  grd (inb i list2) <|
  grd (inb i list2) <|
  grz ((at_ [] list2 i).length : Int) <|
  grd (inb (rank2.tmod ((at_ [] list2 i).length : Int)) (at_ [] list2 i)) <|
  grd (inb i out) <|
  grd (inb i out) <|
  letv (out.set i.toNat (at_ 0 (at_ [] list2 i) (rank2.tmod ((at_ [] list2 i).length : Int)))) fun u =>
  grd (inb i list2) <|
  grz ((at_ [] list2 i).length : Int) <|
  rec_ list2 (w64 (rank2.tdiv ((at_ [] list2 i).length : Int))) u (w64 (i - 1))
 else
 some out
def impl_nthRepair_l0 (N : Nat) : Nat → (List (List Int)) → Int → (List Int) → Int → Option (List Int)
 | 0, _, _, _, _ => none
 | k_ + 1, list2, rank2, out, i => impl_nthRepair_l0_b N (impl_nthRepair_l0 N k_) list2 rank2 out i
def impl_nthRepair_b (N : Nat) (impl_nthRepair_l0S : (List (List Int)) → Int → (List Int) → Int → Option (List Int)) (list : List (List Int)) (rank : Int) : Option (List Int) :=
 grd (makeOk (list.length : Int) 8) <|
 impl_nthRepair_l0S list rank (List.replicate (list.length : Int).toNat 0) (w64 ((list.length : Int) - 1))
def impl_nthRepair (N : Nat) (list : List (List Int)) (rank : Int) : Option (List Int) := impl_nthRepair_b N (impl_nthRepair_l0 N N) list rank
def impl_groupOf_l0_b (N : Nat) (rec_ : Int → Int → Int → (List (ByteArray × Int × Int)) → (List (Int × List Int)) → (List Int) → (List Int) → Int → Int → Option (List Int)) (relation2 : Int) (groupColumn2 : Int) (value2 : Int) (db2 : List (ByteArray × Int × Int)) (db3 : List (Int × List Int)) (out : List Int) (t15 : List Int) (t16 : Int) (t17 : Int) : Option (List Int) :=
 bif decide (t17 < t16) then
  grd (inb t17 t15) <|
  grd (inb (at_ 0 t15 t17) db3) <|
  bif (((at_ (0, []) db3 (at_ 0 t15 t17)).1) == relation2) then
   grd (inb (at_ 0 t15 t17) db3) <|
   grd (inb groupColumn2 ((at_ (0, []) db3 (at_ 0 t15 t17)).2)) <|
   bif ((at_ 0 ((at_ (0, []) db3 (at_ 0 t15 t17)).2) groupColumn2) == value2) then
    grd (appOk out [(at_ 0 t15 t17)] 8) <|
    rec_ relation2 groupColumn2 value2 db2 db3 (out ++ [(at_ 0 t15 t17)]) t15 t16 (w64 (t17 + 1))
   else
   rec_ relation2 groupColumn2 value2 db2 db3 out t15 t16 (w64 (t17 + 1))
  else
  rec_ relation2 groupColumn2 value2 db2 db3 out t15 t16 (w64 (t17 + 1))
 else
 some out
def impl_groupOf_l0 (N : Nat) : Nat → Int → Int → Int → (List (ByteArray × Int × Int)) → (List (Int × List Int)) → (List Int) → (List Int) → Int → Int → Option (List Int)
 | 0, _, _, _, _, _, _, _, _, _ => none
 | k_ + 1, relation2, groupColumn2, value2, db2, db3, out, t15, t16, t17 => impl_groupOf_l0_b N (impl_groupOf_l0 N k_) relation2 groupColumn2 value2 db2 db3 out t15 t16 t17
def impl_groupOf_b (N : Nat) (impl_groupOf_l0S : Int → Int → Int → (List (ByteArray × Int × Int)) → (List (Int × List Int)) → (List Int) → (List Int) → Int → Int → Option (List Int)) (db : List (ByteArray × Int × Int) × List (Int × List Int)) (indices : List Int) (relation : Int) (groupColumn : Int) (value : Int) : Option (List Int) :=
 impl_groupOf_l0S relation groupColumn value db.1 db.2 [] indices (indices.length : Int) 0
def impl_groupOf (N : Nat) (db : List (ByteArray × Int × Int) × List (Int × List Int)) (indices : List Int) (relation : Int) (groupColumn : Int) (value : Int) : Option (List Int) := impl_groupOf_b N (impl_groupOf_l0 N N) db indices relation groupColumn value
def impl_sumOf_l0_b (N : Nat) (rec_ : Int → (List Int) → Int → Int → Option (Int)) (sum : Int) (t6 : List Int) (t7 : Int) (t8 : Int) : Option (Int) :=
 bif decide (t8 < t7) then
  grd (inb t8 t6) <|
  rec_ (w64 (sum + (at_ 0 t6 t8))) t6 t7 (w64 (t8 + 1))
 else
 some sum
def impl_sumOf_l0 (N : Nat) : Nat → Int → (List Int) → Int → Int → Option (Int)
 | 0, _, _, _, _ => none
 | k_ + 1, sum, t6, t7, t8 => impl_sumOf_l0_b N (impl_sumOf_l0 N k_) sum t6 t7 t8
def impl_sumOf_b (N : Nat) (impl_sumOf_l0S : Int → (List Int) → Int → Int → Option (Int)) (values : List Int) : Option (Int) :=
 impl_sumOf_l0S 0 values (values.length : Int) 0
def impl_sumOf (N : Nat) (values : List Int) : Option (Int) := impl_sumOf_b N (impl_sumOf_l0 N N) values
def impl_GroupSumRange_c1 (N : Nat) (repair : List Int) (c1 : List (ByteArray × Int × Int) × List (Int × List Int)) (c2 : Int) (c3 : Int) (c4 : Int) (c5 : Int) : Option (Int) :=
 (impl_groupOf N c1 repair c2 c3 c4).bind fun r =>
 (impl_columnOf N c1 r c2 c5).bind fun r2 =>
 (impl_sumOf N r2).bind fun r3 =>
 some r3
def impl_countRepairs_l0_b (N : Nat) (rec_ : Int → (List (List Int)) → Int → Int → Option (Int)) (out : Int) (t6 : List (List Int)) (t7 : Int) (t8 : Int) : Option (Int) :=
 bif decide (t8 < t7) then
  grd (inb t8 t6) <|
  rec_ (w64 (out * ((at_ [] t6 t8).length : Int))) t6 t7 (w64 (t8 + 1))
 else
 some out
def impl_countRepairs_l0 (N : Nat) : Nat → Int → (List (List Int)) → Int → Int → Option (Int)
 | 0, _, _, _, _ => none
 | k_ + 1, out, t6, t7, t8 => impl_countRepairs_l0_b N (impl_countRepairs_l0 N k_) out t6 t7 t8
def impl_countRepairs_b (N : Nat) (impl_countRepairs_l0S : Int → (List (List Int)) → Int → Int → Option (Int)) (list : List (List Int)) : Option (Int) :=
 impl_countRepairs_l0S 1 list (list.length : Int) 0
def impl_countRepairs (N : Nat) (list : List (List Int)) : Option (Int) := impl_countRepairs_b N (impl_countRepairs_l0 N N) list
def impl_rangeOf_GroupSumRange_c1_l0_b (N : Nat) (rec_ : (List (ByteArray × Int × Int) × List (Int × List Int)) → Int → Int → Int → Int → (List (List Int)) → Int → Int → Int → Int → Option (Int × Int)) (aggregate : List (ByteArray × Int × Int) × List (Int × List Int)) (aggregate2 : Int) (aggregate3 : Int) (aggregate4 : Int) (aggregate5 : Int) (list : List (List Int)) (least : Int) (most : Int) (t19 : Int) (t20 : Int) : Option (Int × Int) :=
 bif decide (t20 < t19) then
  (impl_nthRepair N list t20).bind fun r5 =>
  (impl_GroupSumRange_c1 N r5 aggregate aggregate2 aggregate3 aggregate4 aggregate5).bind fun r6 =>
  rec_ aggregate aggregate2 aggregate3 aggregate4 aggregate5 list (imin least r6) (imax most r6) t19 (w64 (t20 + 1))
 else
 some (least, most)
def impl_rangeOf_GroupSumRange_c1_l0 (N : Nat) : Nat → (List (ByteArray × Int × Int) × List (Int × List Int)) → Int → Int → Int → Int → (List (List Int)) → Int → Int → Int → Int → Option (Int × Int)
 | 0, _, _, _, _, _, _, _, _, _, _ => none
 | k_ + 1, aggregate, aggregate2, aggregate3, aggregate4, aggregate5, list, least, most, t19, t20 => impl_rangeOf_GroupSumRange_c1_l0_b N (impl_rangeOf_GroupSumRange_c1_l0 N k_) aggregate aggregate2 aggregate3 aggregate4 aggregate5 list least most t19 t20
def impl_rangeOf_GroupSumRange_c1_b (N : Nat) (impl_rangeOf_GroupSumRange_c1_l0S : (List (ByteArray × Int × Int) × List (Int × List Int)) → Int → Int → Int → Int → (List (List Int)) → Int → Int → Int → Int → Option (Int × Int)) (db : List (ByteArray × Int × Int) × List (Int × List Int)) (c : List (ByteArray × Int × Int) × List (Int × List Int)) (c2 : Int) (c3 : Int) (c4 : Int) (c5 : Int) : Option (Int × Int) :=
 (impl_blocks N db).bind fun r =>
 (impl_nthRepair N r 0).bind fun r2 =>
 (impl_GroupSumRange_c1 N r2 c c2 c3 c4 c5).bind fun r3 =>
 (impl_countRepairs N r).bind fun r4 =>
 impl_rangeOf_GroupSumRange_c1_l0S c c2 c3 c4 c5 r r3 r3 r4 0
def impl_rangeOf_GroupSumRange_c1 (N : Nat) (db : List (ByteArray × Int × Int) × List (Int × List Int)) (c : List (ByteArray × Int × Int) × List (Int × List Int)) (c2 : Int) (c3 : Int) (c4 : Int) (c5 : Int) : Option (Int × Int) := impl_rangeOf_GroupSumRange_c1_b N (impl_rangeOf_GroupSumRange_c1_l0 N N) db c c2 c3 c4 c5
def impl_GroupSumRange (N : Nat) (db : List (ByteArray × Int × Int) × List (Int × List Int)) (relation : Int) (groupColumn : Int) (column : Int) (value : Int) : Option (Int × Int × Bool) :=
 (impl_isColumn N db relation groupColumn).bind fun r =>
 bif (!r) then some (0, 0, false)
 else
 (impl_isColumn N db relation column).bind fun r2 =>
 bif (!r2) then some (0, 0, false)
 else
 (impl_rangeOf_GroupSumRange_c1 N db db relation groupColumn value column).bind fun p_r3 =>
 some (p_r3.1, p_r3.2, true)
def impl_GroupInAllRepairs_c1 (N : Nat) (repair : List Int) (c1 : List (ByteArray × Int × Int) × List (Int × List Int)) (c2 : Int) (c3 : Int) (c4 : Int) : Option (Int) :=
 (impl_groupOf N c1 repair c2 c3 c4).bind fun r =>
 some (r.length : Int)
def impl_rangeOf_GroupInAllRepairs_c1_l0_b (N : Nat) (rec_ : (List (ByteArray × Int × Int) × List (Int × List Int)) → Int → Int → Int → (List (List Int)) → Int → Int → Int → Int → Option (Int × Int)) (aggregate : List (ByteArray × Int × Int) × List (Int × List Int)) (aggregate2 : Int) (aggregate3 : Int) (aggregate4 : Int) (list : List (List Int)) (least : Int) (most : Int) (t19 : Int) (t20 : Int) : Option (Int × Int) :=
 bif decide (t20 < t19) then
  (impl_nthRepair N list t20).bind fun r5 =>
  (impl_GroupInAllRepairs_c1 N r5 aggregate aggregate2 aggregate3 aggregate4).bind fun r6 =>
  rec_ aggregate aggregate2 aggregate3 aggregate4 list (imin least r6) (imax most r6) t19 (w64 (t20 + 1))
 else
 some (least, most)
def impl_rangeOf_GroupInAllRepairs_c1_l0 (N : Nat) : Nat → (List (ByteArray × Int × Int) × List (Int × List Int)) → Int → Int → Int → (List (List Int)) → Int → Int → Int → Int → Option (Int × Int)
 | 0, _, _, _, _, _, _, _, _, _ => none
 | k_ + 1, aggregate, aggregate2, aggregate3, aggregate4, list, least, most, t19, t20 => impl_rangeOf_GroupInAllRepairs_c1_l0_b N (impl_rangeOf_GroupInAllRepairs_c1_l0 N k_) aggregate aggregate2 aggregate3 aggregate4 list least most t19 t20
def impl_rangeOf_GroupInAllRepairs_c1_b (N : Nat) (impl_rangeOf_GroupInAllRepairs_c1_l0S : (List (ByteArray × Int × Int) × List (Int × List Int)) → Int → Int → Int → (List (List Int)) → Int → Int → Int → Int → Option (Int × Int)) (db : List (ByteArray × Int × Int) × List (Int × List Int)) (c : List (ByteArray × Int × Int) × List (Int × List Int)) (c2 : Int) (c3 : Int) (c4 : Int) : Option (Int × Int) :=
 (impl_blocks N db).bind fun r =>
 (impl_nthRepair N r 0).bind fun r2 =>
 (impl_GroupInAllRepairs_c1 N r2 c c2 c3 c4).bind fun r3 =>
 (impl_countRepairs N r).bind fun r4 =>
 impl_rangeOf_GroupInAllRepairs_c1_l0S c c2 c3 c4 r r3 r3 r4 0
def impl_rangeOf_GroupInAllRepairs_c1 (N : Nat) (db : List (ByteArray × Int × Int) × List (Int × List Int)) (c : List (ByteArray × Int × Int) × List (Int × List Int)) (c2 : Int) (c3 : Int) (c4 : Int) : Option (Int × Int) := impl_rangeOf_GroupInAllRepairs_c1_b N (impl_rangeOf_GroupInAllRepairs_c1_l0 N N) db c c2 c3 c4
def impl_GroupInAllRepairs (N : Nat) (db : List (ByteArray × Int × Int) × List (Int × List Int)) (relation : Int) (groupColumn : Int) (value : Int) : Option (Bool) :=
 (impl_isColumn N db relation groupColumn).bind fun r =>
 bif (!r) then some false
 else
 (impl_rangeOf_GroupInAllRepairs_c1 N db db relation groupColumn value).bind fun p_r2 =>
 some (decide (p_r2.1 > 0))
def impl_GroupRanges_l1_b (N : Nat) (rec_ : Int → Int → Int → (List (ByteArray × Int × Int)) → (List (Int × List Int)) → (List (Int × Int × Int × Bool)) → (List Int) → Int → Int → Option ((List (Int × Int × Int × Bool)) × Bool)) (relation3 : Int) (groupColumn3 : Int) (column3 : Int) (db4 : List (ByteArray × Int × Int)) (db5 : List (Int × List Int)) (out2 : List (Int × Int × Int × Bool)) (t48 : List Int) (t49 : Int) (t50 : Int) : Option ((List (Int × Int × Int × Bool)) × Bool) :=
 bif decide (t50 < t49) then
  grd (inb t50 t48) <|
  (impl_GroupSumRange N (db4, db5) relation3 groupColumn3 column3 (at_ 0 t48 t50)).bind fun p_r5 =>
  (impl_GroupInAllRepairs N (db4, db5) relation3 groupColumn3 (at_ 0 t48 t50)).bind fun r8 =>
  grd (appOk out2 [((at_ 0 t48 t50), p_r5.1, p_r5.2.1, r8)] 32) <|
  rec_ relation3 groupColumn3 column3 db4 db5 (out2 ++ [((at_ 0 t48 t50), p_r5.1, p_r5.2.1, r8)]) t48 t49 (w64 (t50 + 1))
 else
 some (out2, true)
def impl_GroupRanges_l1 (N : Nat) : Nat → Int → Int → Int → (List (ByteArray × Int × Int)) → (List (Int × List Int)) → (List (Int × Int × Int × Bool)) → (List Int) → Int → Int → Option ((List (Int × Int × Int × Bool)) × Bool)
 | 0, _, _, _, _, _, _, _, _, _ => none
 | k_ + 1, relation3, groupColumn3, column3, db4, db5, out2, t48, t49, t50 => impl_GroupRanges_l1_b N (impl_GroupRanges_l1 N k_) relation3 groupColumn3 column3 db4 db5 out2 t48 t49 t50
def impl_GroupRanges_l0_b (N : Nat) (impl_GroupRanges_l1S : Int → Int → Int → (List (ByteArray × Int × Int)) → (List (Int × List Int)) → (List (Int × Int × Int × Bool)) → (List Int) → Int → Int → Option ((List (Int × Int × Int × Bool)) × Bool)) (rec_ : Int → Int → Int → (List (ByteArray × Int × Int)) → (List (Int × List Int)) → (List Int) → (List (Int × Int × Int × Bool)) → Int → Int → Option ((List (Int × Int × Int × Bool)) × Bool)) (relation2 : Int) (groupColumn2 : Int) (column2 : Int) (db2 : List (ByteArray × Int × Int)) (db3 : List (Int × List Int)) (all : List Int) (out : List (Int × Int × Int × Bool)) (t34 : Int) (t35 : Int) : Option ((List (Int × Int × Int × Bool)) × Bool) :=
 bif decide (t35 < t34) then
  grd (appOk all [t35] 8) <|
  rec_ relation2 groupColumn2 column2 db2 db3 (all ++ [t35]) out t34 (w64 (t35 + 1))
 else
 (impl_columnOf N (db2, db3) all relation2 groupColumn2).bind fun r3 =>
 (impl_union N r3 []).bind fun r4 =>
 impl_GroupRanges_l1S relation2 groupColumn2 column2 db2 db3 out r4 (r4.length : Int) 0
def impl_GroupRanges_l0 (N : Nat) : Nat → Int → Int → Int → (List (ByteArray × Int × Int)) → (List (Int × List Int)) → (List Int) → (List (Int × Int × Int × Bool)) → Int → Int → Option ((List (Int × Int × Int × Bool)) × Bool)
 | 0, _, _, _, _, _, _, _, _, _ => none
 | k_ + 1, relation2, groupColumn2, column2, db2, db3, all, out, t34, t35 => impl_GroupRanges_l0_b N (impl_GroupRanges_l1 N N) (impl_GroupRanges_l0 N k_) relation2 groupColumn2 column2 db2 db3 all out t34 t35
def impl_GroupRanges_b (N : Nat) (impl_GroupRanges_l0S : Int → Int → Int → (List (ByteArray × Int × Int)) → (List (Int × List Int)) → (List Int) → (List (Int × Int × Int × Bool)) → Int → Int → Option ((List (Int × Int × Int × Bool)) × Bool)) (db : List (ByteArray × Int × Int) × List (Int × List Int)) (relation : Int) (groupColumn : Int) (column : Int) : Option ((List (Int × Int × Int × Bool)) × Bool) :=
 (impl_isColumn N db relation groupColumn).bind fun r =>
 bif (!r) then some ([], false)
 else
 (impl_isColumn N db relation column).bind fun r2 =>
 bif (!r2) then some ([], false)
 else
 impl_GroupRanges_l0S relation groupColumn column db.1 db.2 [] [] (db.2.length : Int) 0
def impl_GroupRanges (N : Nat) (db : List (ByteArray × Int × Int) × List (Int × List Int)) (relation : Int) (groupColumn : Int) (column : Int) : Option ((List (Int × Int × Int × Bool)) × Bool) := impl_GroupRanges_b N (impl_GroupRanges_l0 N N) db relation groupColumn column
def laws_eqGroupRange (N : Nat) (a : Int × Int × Int × Bool) (b : Int × Int × Int × Bool) : Option (Bool) :=
 bif (a.1 != b.1) then some false
 else
 bif (a.2.1 != b.2.1) then some false
 else
 bif (a.2.2.1 != b.2.2.1) then some false
 else
 bif (!(a.2.2.2 == b.2.2.2)) then some false
 else
 some true
def laws_eqGroupRangeS_l0_b (N : Nat) (rec_ : (List (Int × Int × Int × Bool)) → (List (Int × Int × Int × Bool)) → Int → Option (Bool)) (a2 : List (Int × Int × Int × Bool)) (b2 : List (Int × Int × Int × Bool)) (i : Int) : Option (Bool) :=
 bif decide (i < (a2.length : Int)) then
  grd (inb i a2) <|
  grd (inb i b2) <|
  (laws_eqGroupRange N ((at_ (0, (0, (0, false))) a2 i).1, ((at_ (0, (0, (0, false))) a2 i).2).1, (((at_ (0, (0, (0, false))) a2 i).2).2)) ((at_ (0, (0, (0, false))) b2 i).1, ((at_ (0, (0, (0, false))) b2 i).2).1, (((at_ (0, (0, (0, false))) b2 i).2).2))).bind fun r =>
  bif (!r) then some false
  else
  rec_ a2 b2 (w64 (i + 1))
 else
 some true
def laws_eqGroupRangeS_l0 (N : Nat) : Nat → (List (Int × Int × Int × Bool)) → (List (Int × Int × Int × Bool)) → Int → Option (Bool)
 | 0, _, _, _ => none
 | k_ + 1, a2, b2, i => laws_eqGroupRangeS_l0_b N (laws_eqGroupRangeS_l0 N k_) a2 b2 i
def laws_eqGroupRangeS_b (N : Nat) (laws_eqGroupRangeS_l0S : (List (Int × Int × Int × Bool)) → (List (Int × Int × Int × Bool)) → Int → Option (Bool)) (a : List (Int × Int × Int × Bool)) (b : List (Int × Int × Int × Bool)) : Option (Bool) :=
 bif ((a.length : Int) != (b.length : Int)) then some false
 else
 laws_eqGroupRangeS_l0S a b 0
def laws_eqGroupRangeS (N : Nat) (a : List (Int × Int × Int × Bool)) (b : List (Int × Int × Int × Bool)) : Option (Bool) := laws_eqGroupRangeS_b N (laws_eqGroupRangeS_l0 N N) a b
def laws_eqRelation (N : Nat) (a : ByteArray × Int × Int) (b : ByteArray × Int × Int) : Option (Bool) :=
 bif (!seq a.1 b.1) then some false
 else
 bif (a.2.1 != b.2.1) then some false
 else
 bif (a.2.2 != b.2.2) then some false
 else
 some true
def laws_eqRelationS_l0_b (N : Nat) (rec_ : (List (ByteArray × Int × Int)) → (List (ByteArray × Int × Int)) → Int → Option (Bool)) (a2 : List (ByteArray × Int × Int)) (b2 : List (ByteArray × Int × Int)) (i : Int) : Option (Bool) :=
 bif decide (i < (a2.length : Int)) then
  grd (inb i a2) <|
  grd (inb i b2) <|
  (laws_eqRelation N ((at_ (⟨#[]⟩, (0, 0)) a2 i).1, ((at_ (⟨#[]⟩, (0, 0)) a2 i).2)) ((at_ (⟨#[]⟩, (0, 0)) b2 i).1, ((at_ (⟨#[]⟩, (0, 0)) b2 i).2))).bind fun r =>
  bif (!r) then some false
  else
  rec_ a2 b2 (w64 (i + 1))
 else
 some true
def laws_eqRelationS_l0 (N : Nat) : Nat → (List (ByteArray × Int × Int)) → (List (ByteArray × Int × Int)) → Int → Option (Bool)
 | 0, _, _, _ => none
 | k_ + 1, a2, b2, i => laws_eqRelationS_l0_b N (laws_eqRelationS_l0 N k_) a2 b2 i
def laws_eqRelationS_b (N : Nat) (laws_eqRelationS_l0S : (List (ByteArray × Int × Int)) → (List (ByteArray × Int × Int)) → Int → Option (Bool)) (a : List (ByteArray × Int × Int)) (b : List (ByteArray × Int × Int)) : Option (Bool) :=
 bif ((a.length : Int) != (b.length : Int)) then some false
 else
 laws_eqRelationS_l0S a b 0
def laws_eqRelationS (N : Nat) (a : List (ByteArray × Int × Int)) (b : List (ByteArray × Int × Int)) : Option (Bool) := laws_eqRelationS_b N (laws_eqRelationS_l0 N N) a b
def laws_eqIntS_l0_b (N : Nat) (rec_ : (List Int) → (List Int) → Int → Option (Bool)) (a2 : List Int) (b2 : List Int) (i : Int) : Option (Bool) :=
 bif decide (i < (a2.length : Int)) then
  grd (inb i a2) <|
  grd (inb i b2) <|
  bif ((at_ 0 a2 i) != (at_ 0 b2 i)) then some false
  else
  rec_ a2 b2 (w64 (i + 1))
 else
 some true
def laws_eqIntS_l0 (N : Nat) : Nat → (List Int) → (List Int) → Int → Option (Bool)
 | 0, _, _, _ => none
 | k_ + 1, a2, b2, i => laws_eqIntS_l0_b N (laws_eqIntS_l0 N k_) a2 b2 i
def laws_eqIntS_b (N : Nat) (laws_eqIntS_l0S : (List Int) → (List Int) → Int → Option (Bool)) (a : List Int) (b : List Int) : Option (Bool) :=
 bif ((a.length : Int) != (b.length : Int)) then some false
 else
 laws_eqIntS_l0S a b 0
def laws_eqIntS (N : Nat) (a : List Int) (b : List Int) : Option (Bool) := laws_eqIntS_b N (laws_eqIntS_l0 N N) a b
def laws_eqFact (N : Nat) (a : Int × List Int) (b : Int × List Int) : Option (Bool) :=
 bif (a.1 != b.1) then some false
 else
 (laws_eqIntS N a.2 b.2).bind fun r =>
 bif (!r) then some false
 else
 some true
def laws_eqFactS_l0_b (N : Nat) (rec_ : (List (Int × List Int)) → (List (Int × List Int)) → Int → Option (Bool)) (a2 : List (Int × List Int)) (b2 : List (Int × List Int)) (i : Int) : Option (Bool) :=
 bif decide (i < (a2.length : Int)) then
  grd (inb i a2) <|
  grd (inb i b2) <|
  (laws_eqFact N (at_ (0, []) a2 i) (at_ (0, []) b2 i)).bind fun r =>
  bif (!r) then some false
  else
  rec_ a2 b2 (w64 (i + 1))
 else
 some true
def laws_eqFactS_l0 (N : Nat) : Nat → (List (Int × List Int)) → (List (Int × List Int)) → Int → Option (Bool)
 | 0, _, _, _ => none
 | k_ + 1, a2, b2, i => laws_eqFactS_l0_b N (laws_eqFactS_l0 N k_) a2 b2 i
def laws_eqFactS_b (N : Nat) (laws_eqFactS_l0S : (List (Int × List Int)) → (List (Int × List Int)) → Int → Option (Bool)) (a : List (Int × List Int)) (b : List (Int × List Int)) : Option (Bool) :=
 bif ((a.length : Int) != (b.length : Int)) then some false
 else
 laws_eqFactS_l0S a b 0
def laws_eqFactS (N : Nat) (a : List (Int × List Int)) (b : List (Int × List Int)) : Option (Bool) := laws_eqFactS_b N (laws_eqFactS_l0 N N) a b
def laws_eqDatabase (N : Nat) (a : List (ByteArray × Int × Int) × List (Int × List Int)) (b : List (ByteArray × Int × Int) × List (Int × List Int)) : Option (Bool) :=
 (laws_eqRelationS N a.1 b.1).bind fun r =>
 bif (!r) then some false
 else
 (laws_eqFactS N a.2 b.2).bind fun r2 =>
 bif (!r2) then some false
 else
 some true
def laws_markText_l0_b (N : Nat) (rec_ : Int → ByteArray → Option (ByteArray)) (k2 : Int) (out : ByteArray) : Option (ByteArray) :=
 bif decide (k2 > 0) then
  grz 10 <|
  grd (catOk (ofBytes [(w .u8 (w64 (48 + (k2.tmod 10))))]) out) <|
  grz 10 <|
  rec_ (w64 (k2.tdiv 10)) ((ofBytes [(w .u8 (w64 (48 + (k2.tmod 10))))]) ++ out)
 else
 grd (catOk (⟨#[109]⟩) out) <|
 some ((⟨#[109]⟩) ++ out)
def laws_markText_l0 (N : Nat) : Nat → Int → ByteArray → Option (ByteArray)
 | 0, _, _ => none
 | k_ + 1, k2, out => laws_markText_l0_b N (laws_markText_l0 N k_) k2 out
def laws_markText_b (N : Nat) (laws_markText_l0S : Int → ByteArray → Option (ByteArray)) (k : Int) : Option (ByteArray) :=
 bif decide (k ≤ 0) then some (⟨#[109, 48]⟩)
 else
 laws_markText_l0S k (⟨#[]⟩)
def laws_markText (N : Nat) (k : Int) : Option (ByteArray) := laws_markText_b N (laws_markText_l0 N N) k
def laws_markRelationS_l0_b (N : Nat) (rec_ : (List (ByteArray × Int × Int)) → Int → Int → Option ((List (ByteArray × Int × Int)) × Int)) (a2 : List (ByteArray × Int × Int)) (k2 : Int) (i : Int) : Option ((List (ByteArray × Int × Int)) × Int) :=
 bif decide (i < (a2.length : Int)) then
  (laws_markText N k2).bind fun r =>
  grd (inb i a2) <|
  grd (inb i a2) <|
  letv (a2.set i.toNat (r, ((at_ (⟨#[]⟩, (0, 0)) a2 i).2))) fun u =>
  grd (inb i u) <|
  grd (inb i u) <|
  letv (u.set i.toNat ((at_ (⟨#[]⟩, (0, 0)) u i).1, (w64 (k2 + 1)), ((at_ (⟨#[]⟩, (0, 0)) u i).2).2)) fun u2 =>
  grd (inb i u2) <|
  grd (inb i u2) <|
  letv (u2.set i.toNat ((at_ (⟨#[]⟩, (0, 0)) u2 i).1, ((at_ (⟨#[]⟩, (0, 0)) u2 i).2).1, (w64 ((w64 (k2 + 1)) + 1)))) fun u3 =>
  rec_ u3 (w64 ((w64 ((w64 (k2 + 1)) + 1)) + 1)) (w64 (i + 1))
 else
 some (a2, k2)
def laws_markRelationS_l0 (N : Nat) : Nat → (List (ByteArray × Int × Int)) → Int → Int → Option ((List (ByteArray × Int × Int)) × Int)
 | 0, _, _, _ => none
 | k_ + 1, a2, k2, i => laws_markRelationS_l0_b N (laws_markRelationS_l0 N k_) a2 k2 i
def laws_markRelationS_b (N : Nat) (laws_markRelationS_l0S : (List (ByteArray × Int × Int)) → Int → Int → Option ((List (ByteArray × Int × Int)) × Int)) (a : List (ByteArray × Int × Int)) (k : Int) : Option ((List (ByteArray × Int × Int)) × Int) :=
 laws_markRelationS_l0S a k 0
def laws_markRelationS (N : Nat) (a : List (ByteArray × Int × Int)) (k : Int) : Option ((List (ByteArray × Int × Int)) × Int) := laws_markRelationS_b N (laws_markRelationS_l0 N N) a k
def laws_markIntS_l0_b (N : Nat) (rec_ : (List Int) → Int → Int → Option (List Int × Int)) (a2 : List Int) (k2 : Int) (i : Int) : Option (List Int × Int) :=
 bif decide (i < (a2.length : Int)) then
  grd (inb i a2) <|
  grd (inb i a2) <|
  letv (a2.set i.toNat k2) fun u =>
  rec_ u (w64 (k2 + 1)) (w64 (i + 1))
 else
 some (a2, k2)
def laws_markIntS_l0 (N : Nat) : Nat → (List Int) → Int → Int → Option (List Int × Int)
 | 0, _, _, _ => none
 | k_ + 1, a2, k2, i => laws_markIntS_l0_b N (laws_markIntS_l0 N k_) a2 k2 i
def laws_markIntS_b (N : Nat) (laws_markIntS_l0S : (List Int) → Int → Int → Option (List Int × Int)) (a : List Int) (k : Int) : Option (List Int × Int) :=
 laws_markIntS_l0S a k 0
def laws_markIntS (N : Nat) (a : List Int) (k : Int) : Option (List Int × Int) := laws_markIntS_b N (laws_markIntS_l0 N N) a k
def laws_markFactS_l0_b (N : Nat) (rec_ : (List (Int × List Int)) → Int → Int → Option ((List (Int × List Int)) × Int)) (a2 : List (Int × List Int)) (k2 : Int) (i : Int) : Option ((List (Int × List Int)) × Int) :=
 bif decide (i < (a2.length : Int)) then
  grd (inb i a2) <|
  grd (inb i a2) <|
  letv (a2.set i.toNat (k2, (at_ (0, []) a2 i).2)) fun u =>
  grd (inb i u) <|
  (laws_markIntS N ((at_ (0, []) u i).2) (w64 (k2 + 1))).bind fun p_m =>
  letv (u.set i.toNat ((at_ (0, []) u i).1, p_m.1)) fun u2 =>
  rec_ u2 p_m.2 (w64 (i + 1))
 else
 some (a2, k2)
def laws_markFactS_l0 (N : Nat) : Nat → (List (Int × List Int)) → Int → Int → Option ((List (Int × List Int)) × Int)
 | 0, _, _, _ => none
 | k_ + 1, a2, k2, i => laws_markFactS_l0_b N (laws_markFactS_l0 N k_) a2 k2 i
def laws_markFactS_b (N : Nat) (laws_markFactS_l0S : (List (Int × List Int)) → Int → Int → Option ((List (Int × List Int)) × Int)) (a : List (Int × List Int)) (k : Int) : Option ((List (Int × List Int)) × Int) :=
 laws_markFactS_l0S a k 0
def laws_markFactS (N : Nat) (a : List (Int × List Int)) (k : Int) : Option ((List (Int × List Int)) × Int) := laws_markFactS_b N (laws_markFactS_l0 N N) a k
def laws_markDatabase (N : Nat) (a : List (ByteArray × Int × Int) × List (Int × List Int)) (k : Int) : Option ((List (ByteArray × Int × Int) × List (Int × List Int)) × Int) :=
 (laws_markRelationS N a.1 k).bind fun p_m =>
 (laws_markFactS N a.2 p_m.2).bind fun p_m2 =>
 some ((p_m.1, p_m2.1), p_m2.2)
def laws_markGroupRangeS_l0_b (N : Nat) (rec_ : (List (Int × Int × Int × Bool)) → Int → Int → Option ((List (Int × Int × Int × Bool)) × Int)) (a2 : List (Int × Int × Int × Bool)) (k2 : Int) (i : Int) : Option ((List (Int × Int × Int × Bool)) × Int) :=
 bif decide (i < (a2.length : Int)) then
  grd (inb i a2) <|
  grd (inb i a2) <|
  letv (a2.set i.toNat (k2, ((at_ (0, (0, (0, false))) a2 i).2).1, (((at_ (0, (0, (0, false))) a2 i).2).2))) fun u =>
  grd (inb i u) <|
  grd (inb i u) <|
  letv (u.set i.toNat ((at_ (0, (0, (0, false))) u i).1, (w64 (k2 + 1)), (((at_ (0, (0, (0, false))) u i).2).2))) fun u2 =>
  grd (inb i u2) <|
  grd (inb i u2) <|
  letv (u2.set i.toNat ((at_ (0, (0, (0, false))) u2 i).1, ((at_ (0, (0, (0, false))) u2 i).2).1, (w64 ((w64 (k2 + 1)) + 1)), (((at_ (0, (0, (0, false))) u2 i).2).2).2)) fun u3 =>
  grz 3 <|
  grd (inb i u3) <|
  grd (inb i u3) <|
  letv (u3.set i.toNat ((at_ (0, (0, (0, false))) u3 i).1, ((at_ (0, (0, (0, false))) u3 i).2).1, (((at_ (0, (0, (0, false))) u3 i).2).2).1, (((w64 ((w64 ((w64 (k2 + 1)) + 1)) + 1)).tmod 3) == 0))) fun u4 =>
  rec_ u4 (w64 ((w64 ((w64 ((w64 (k2 + 1)) + 1)) + 1)) + 1)) (w64 (i + 1))
 else
 some (a2, k2)
def laws_markGroupRangeS_l0 (N : Nat) : Nat → (List (Int × Int × Int × Bool)) → Int → Int → Option ((List (Int × Int × Int × Bool)) × Int)
 | 0, _, _, _ => none
 | k_ + 1, a2, k2, i => laws_markGroupRangeS_l0_b N (laws_markGroupRangeS_l0 N k_) a2 k2 i
def laws_markGroupRangeS_b (N : Nat) (laws_markGroupRangeS_l0S : (List (Int × Int × Int × Bool)) → Int → Int → Option ((List (Int × Int × Int × Bool)) × Int)) (a : List (Int × Int × Int × Bool)) (k : Int) : Option ((List (Int × Int × Int × Bool)) × Int) :=
 laws_markGroupRangeS_l0S a k 0
def laws_markGroupRangeS (N : Nat) (a : List (Int × Int × Int × Bool)) (k : Int) : Option ((List (Int × Int × Int × Bool)) × Int) := laws_markGroupRangeS_b N (laws_markGroupRangeS_l0 N N) a k
def laws_heldGroupRangeS_l0_b (N : Nat) (rec_ : (List (Int × Int × Int × Bool)) → Int → Int → Option (Int)) (a2 : List (Int × Int × Int × Bool)) (k2 : Int) (i : Int) : Option (Int) :=
 bif decide (i < (a2.length : Int)) then
  grd (inb i a2) <|
  bif (((at_ (0, (0, (0, false))) a2 i).1) != k2) then some (-1)
  else
  grd (inb i a2) <|
  bif ((((at_ (0, (0, (0, false))) a2 i).2).1) != (w64 (k2 + 1))) then some (-1)
  else
  grd (inb i a2) <|
  bif (((((at_ (0, (0, (0, false))) a2 i).2).2).1) != (w64 ((w64 (k2 + 1)) + 1))) then some (-1)
  else
  grd (inb i a2) <|
  grz 3 <|
  bif (!(((((at_ (0, (0, (0, false))) a2 i).2).2).2) == (((w64 ((w64 ((w64 (k2 + 1)) + 1)) + 1)).tmod 3) == 0))) then some (-1)
  else
  rec_ a2 (w64 ((w64 ((w64 ((w64 (k2 + 1)) + 1)) + 1)) + 1)) (w64 (i + 1))
 else
 some k2
def laws_heldGroupRangeS_l0 (N : Nat) : Nat → (List (Int × Int × Int × Bool)) → Int → Int → Option (Int)
 | 0, _, _, _ => none
 | k_ + 1, a2, k2, i => laws_heldGroupRangeS_l0_b N (laws_heldGroupRangeS_l0 N k_) a2 k2 i
def laws_heldGroupRangeS_b (N : Nat) (laws_heldGroupRangeS_l0S : (List (Int × Int × Int × Bool)) → Int → Int → Option (Int)) (a : List (Int × Int × Int × Bool)) (k : Int) : Option (Int) :=
 laws_heldGroupRangeS_l0S a k 0
def laws_heldGroupRangeS (N : Nat) (a : List (Int × Int × Int × Bool)) (k : Int) : Option (Int) := laws_heldGroupRangeS_b N (laws_heldGroupRangeS_l0 N N) a k
def laws_FnExactGroupRanges (N : Nat) (aDb : List (ByteArray × Int × Int) × List (Int × List Int)) (aRelation : Int) (aGroupColumn : Int) (aColumn : Int) : Option (Bool) :=
 (laws_szDatabase N aDb 1048576).bind fun r =>
 bif decide (r < 0) then some true
 else
 (laws_toDatabase N aDb).bind fun r2 =>
 (spec_GroupRanges N r2 aRelation aGroupColumn aColumn).bind fun p_r3 =>
 (laws_toDatabase N aDb).bind fun r5 =>
 (impl_GroupRanges N r5 aRelation aGroupColumn aColumn).bind fun p_r6 =>
 (laws_eqGroupRangeS N p_r6.1 p_r3.1).bind fun r8 =>
 bif (!r8) then some false
 else
 bif (!(p_r6.2 == p_r3.2)) then some false
 else
 (laws_toDatabase N aDb).bind fun r9 =>
 (laws_eqDatabase N r5 r9).bind fun r10 =>
 bif (!r10) then some false
 else
 (laws_markDatabase N r5 1).bind fun p_m =>
 bif decide (p_m.2 < 0) then some false
 else
 (laws_eqGroupRangeS N p_r6.1 p_r3.1).bind fun r12 =>
 bif (!r12) then some false
 else
 bif (!(p_r6.2 == p_r3.2)) then some false
 else
 (laws_markGroupRangeS N p_r6.1 1).bind fun p_m2 =>
 (laws_heldGroupRangeS N p_m2.1 1).bind fun r14 =>
 bif decide (r14 < 0) then some false
 else
 bif (r14 != p_m2.2) then some false
 else
 (laws_toDatabase N aDb).bind fun r15 =>
 (impl_GroupRanges N r15 aRelation aGroupColumn aColumn).bind fun p_r16 =>
 (laws_eqGroupRangeS N p_r16.1 p_r3.1).bind fun r18 =>
 bif (!r18) then some false
 else
 bif (!(p_r16.2 == p_r3.2)) then some false
 else
 (laws_heldGroupRangeS N p_m2.1 1).bind fun r19 =>
 bif decide (r19 < 0) then some false
 else
 bif (r19 != p_m2.2) then some false
 else
 some true
end Go.PL

/- The plain law, with all that it needs. Conditions: those that stand in each theorem. -/
namespace Go.PL
set_option linter.unusedVariables false
theorem w64_id {x : Int} (h1 : -9223372036854775808 ≤ x) (h2 : x ≤ 9223372036854775807) : w64 x = x := by
 unfold w64 IntKind.wrap
 simp [IntKind.bits, IntKind.signed]
 omega
theorem w64_succ {j : Nat} (h : j < 4611686018427387904) : w64 ((j : Int) + 1) = ((j + 1 : Nat) : Int) := by
 rw [w64_id (by omega) (by omega)]; omega
@[simp] theorem grd_true {α : Type} (x : Option α) : grd true x = x := rfl
@[simp] theorem grd_false {α : Type} (x : Option α) : grd false x = none := rfl
theorem grz_ne {α : Type} {b : Int} (h : b ≠ 0) (x : Option α) : grz b x = x := by simp [grz, h]
@[simp] theorem letv_eq {α β : Type} (v : α) (k : α → β) : letv v k = k v := rfl
theorem inb_nat {α : Type} (j : Nat) (xs : List α) : inb (j : Int) xs = decide (j < xs.length) := by
 simp [inb]
theorem inb_lt {α : Type} {j : Nat} {xs : List α} (h : j < xs.length) : inb (j : Int) xs = true := by simp [inb_nat, h]
theorem at_lt {α : Type} {d : α} {j : Nat} {xs : List α} (h : j < xs.length) : at_ d xs (j : Int) = xs[j] := by simp [at_, h]
theorem makeOk_lt {n : Nat} {b : Nat} (h : n * b ≤ 140737488355328) : makeOk (n : Int) b = true := by
 have h1 : (n : Int) * (b : Int) ≤ 140737488355328 := by rw [← Int.natCast_mul]; omega
 have h2 : (0 : Int) ≤ n := by omega
 simp only [makeOk, h1, h2, decide_true, Bool.and_self]

theorem bytes_loop (bs : ByteArray) : ∀ (m i : Nat) (r : List UInt8), bs.size - i = m → ByteArray.toList.loop bs i r = r.reverse ++ bs.data.toList.drop i
 | 0, i, r, h => by
  have hs : bs.data.toList.length = bs.size := rfl
  unfold ByteArray.toList.loop
  rw [if_neg (by omega), List.drop_of_length_le (by omega)]; simp
 | m + 1, i, r, h => by
  have hs : bs.data.toList.length = bs.size := rfl
  unfold ByteArray.toList.loop
  rw [if_pos (by omega), bytes_loop bs m (i + 1) _ (by omega)]
  have hi : i < bs.data.toList.length := by omega
  rw [List.drop_eq_getElem_cons hi]
  have hi2 : i < bs.data.size := by simpa using hi
  have : bs.get! i = bs.data.toList[i] := by
   show bs.data[i]! = _
   rw [getElem!_pos bs.data i hi2]; simp
  rw [this]; simp
theorem bytes_toList (bs : ByteArray) : bs.toList = bs.data.toList := by
 unfold ByteArray.toList; rw [bytes_loop bs _ 0 [] rfl]; simp
theorem seq_eq (a b : ByteArray) : seq a b = decide (a = b) := by
 unfold seq
 rw [bytes_toList, bytes_toList]
 by_cases h : a = b
 ·subst h; simp
 ·have : ¬ a.data = b.data := fun h2 => h (ByteArray.ext h2)
  simp [h, this]

theorem bneI (a b : Int) : (a != b) = !decide (a = b) := by by_cases h : a = b <;> simp [h]
theorem beqI (a b : Int) : (a == b) = decide (a = b) := by by_cases h : a = b <;> simp [h]
theorem ite_dec {p : Prop} [Decidable p] {α : Type} (x y : Option α) : (bif !decide p then x else y) = if decide p then y else x := by by_cases h : p <;> simp [h]

/-- A loop: what holds at each round's start, and what goes down; what comes out. -/
theorem loop {σ R : Type} (f : Nat → σ → Option R) (I : σ → Prop) (μ : σ → Nat) (Q : Option R → Prop) (hstep : ∀ k s, I s → Q (f (k + 1) s) ∨ ∃ s', I s' ∧ μ s' < μ s ∧ f (k + 1) s = f k s') : ∀ (k : Nat) (s : σ), μ s < k → I s → Q (f k s)
 | 0, s, hk, hs => by omega
 | k + 1, s, hk, hs => by
  rcases hstep k s hs with h | ⟨s', h1, h2, h3⟩
  ·exact h
  ·rw [h3]
   exact loop f I μ Q hstep k s' (by omega) h1

theorem take_succ_set {α : Type} {out a : List α} {j : Nat} {y : α} (h1 : j < a.length) (h2 : j < out.length) (ht : out.take j = a.take j) (hy : y = a[j]) : (out.set j y).take (j + 1) = a.take (j + 1) := by
 subst hy
 rw [List.take_set, List.take_succ_eq_append_getElem h2, List.take_succ_eq_append_getElem h1, ht]
 simp [List.set_append_right, List.length_take, Nat.min_eq_left (Nat.le_of_lt h1)]

/-- A loop that fills a row. -/
theorem fill {β : Type} {b : List β} (f : Nat → List β → Int → Option (List β)) (hend : ∀ k out, f (k + 1) out (b.length : Int) = some out)
  (hstep : ∀ k out j (h : j < b.length), out.length = b.length → f (k + 1) out (j : Int) = f k (out.set j b[j]) ((j + 1 : Nat) : Int)) {k : Nat} (hk : b.length < k) {out : List β} (ho : out.length = b.length) : f k out 0 = some b := by
 have := loop (fun k (s : List β × Nat) => f k s.1 (s.2 : Int)) (fun s => s.1.length = b.length ∧ s.2 ≤ b.length ∧ s.1.take s.2 = b.take s.2) (fun s => b.length - s.2) (fun o => o = some b) (fun k s hs => by
  obtain ⟨out, j⟩ := s
  obtain ⟨h1, h2, h3⟩ := hs
  simp only at h1 h2 h3 ⊢
  by_cases hj : j < b.length
  ·right
   exact ⟨(out.set j b[j], j + 1), ⟨by simp [h1], hj, take_succ_set hj (by omega) h3 rfl⟩, by simp only; omega, hstep k out j hj h1⟩
  ·left
   have : j = b.length := by omega
   subst this
   rw [hend, ← List.take_of_length_le (Nat.le_of_eq h1), h3, List.take_length]) k (out, 0) (by simpa using hk) ⟨ho, by simp, by simp⟩
 exact this
/-- A loop that asks something of each index. -/
theorem every {n : Nat} (p : Nat → Bool) (f : Nat → Int → Option Bool) (hend : ∀ k, f (k + 1) (n : Int) = some true) (hstep : ∀ k j, j < n → f (k + 1) (j : Int) = if p j then f k ((j + 1 : Nat) : Int) else some false) {k : Nat} (hk : n < k) : f k 0 = some (decide (∀ j, j < n → p j = true)) := by
 have := loop (fun k (j : Nat) => f k (j : Int)) (fun j => j ≤ n ∧ ∀ i, i < j → p i = true) (fun j => n - j) (fun o => o = some (decide (∀ j, j < n → p j = true))) (fun k j hs => by
  obtain ⟨h1, h2⟩ := hs
  by_cases hj : j < n
  ·rw [hstep k j hj]
   cases hp : p j with
   | true =>
    right
    exact ⟨j + 1, ⟨hj, fun i hi => by rcases Nat.lt_or_eq_of_le (Nat.le_of_lt_succ hi) with h | h; exact h2 i h; rw [h]; exact hp⟩, by omega, by simp⟩
   | false =>
    left
    have : ¬ ∀ j, j < n → p j = true := fun h => by have := h j hj; rw [hp] at this; simp at this
    simp [this]
  ·left
   have : j = n := by omega
   subst this
   rw [hend]
   simp only [Option.some.injEq]
   symm
   simpa using h2) k 0 (by simpa using hk) ⟨by omega, by omega⟩
 exact this
/-- A loop that asks something of each index, and says e behind it. -/
theorem everyE {R : Type} {n : Nat} (p : Nat → Bool) (no e : Option R) (f : Nat → Int → Option R) (hend : ∀ k, f (k + 1) (n : Int) = e) (hstep : ∀ k j, j < n → f (k + 1) (j : Int) = if p j then f k ((j + 1 : Nat) : Int) else no) {k : Nat} (hk : n < k) : f k 0 = if ∀ j, j < n → p j = true then e else no := by
 have := loop (fun k (j : Nat) => f k (j : Int)) (fun j => j ≤ n ∧ ∀ i, i < j → p i = true) (fun j => n - j) (fun o => o = if ∀ j, j < n → p j = true then e else no) (fun k j hs => by
  obtain ⟨h1, h2⟩ := hs
  by_cases hj : j < n
  ·rw [hstep k j hj]
   cases hp : p j with
   | true =>
    right
    exact ⟨j + 1, ⟨hj, fun i hi => by rcases Nat.lt_or_eq_of_le (Nat.le_of_lt_succ hi) with h | h; exact h2 i h; rw [h]; exact hp⟩, by omega, by simp⟩
   | false =>
    left
    have : ¬ ∀ j, j < n → p j = true := fun h => by have := h j hj; rw [hp] at this; simp at this
    simp [this]
  ·left
   have : j = n := by omega
   subst this
   rw [hend, if_pos h2]) k 0 (by simpa using hk) ⟨by omega, by omega⟩
 exact this
/-- A loop that looks for the first index of which something holds. -/
theorem first {n : Nat} (p : Nat → Bool) (f : Nat → Int → Option Int) (hend : ∀ k, f (k + 1) (n : Int) = some (-1)) (hstep : ∀ k j, j < n → f (k + 1) (j : Int) = if p j then some (j : Int) else f k ((j + 1 : Nat) : Int)) {k : Nat} (hk : n < k) :
  (∃ j, j < n ∧ p j = true ∧ (∀ i, i < j → p i = false) ∧ f k 0 = some (j : Int)) ∨ ((∀ i, i < n → p i = false) ∧ f k 0 = some (-1)) := by
 have := loop (fun k (j : Nat) => f k (j : Int)) (fun j => j ≤ n ∧ ∀ i, i < j → p i = false) (fun j => n - j) (fun o => (∃ j, j < n ∧ p j = true ∧ (∀ i, i < j → p i = false) ∧ o = some (j : Int)) ∨ ((∀ i, i < n → p i = false) ∧ o = some (-1))) (fun k j hs => by
  obtain ⟨h1, h2⟩ := hs
  by_cases hj : j < n
  ·rw [hstep k j hj]
   cases hp : p j with
   | true => left; left; exact ⟨j, hj, hp, h2, rfl⟩
   | false =>
    right
    exact ⟨j + 1, ⟨hj, fun i hi => by rcases Nat.lt_or_eq_of_le (Nat.le_of_lt_succ hi) with h | h; exact h2 i h; rw [h]; exact hp⟩, by omega, by simp⟩
  ·left; right
   have : j = n := by omega
   subst this
   exact ⟨h2, hend k⟩) k 0 (by simpa using hk) ⟨by omega, by omega⟩
 exact this
theorem w64_pred {j : Nat} (h : 0 < j) (h2 : j < 4611686018427387904) : w64 ((j : Int) - 1) = ((j - 1 : Nat) : Int) := by
 rw [w64_id (by omega) (by omega)]; omega
theorem inb_int {α : Type} {i : Int} {xs : List α} (h0 : 0 ≤ i) (h : i < xs.length) : inb i xs = true := by simp [inb, h0, h]
theorem at_int {α : Type} {d : α} {i : Int} {xs : List α} (h0 : 0 ≤ i) (h : i < xs.length) : at_ d xs i = xs[i.toNat]'(by omega) := by
 unfold at_
 rw [List.getD_eq_getElem?_getD, List.getElem?_eq_getElem (by omega)]
 rfl
end Go.PL
namespace Go.PL
set_option linter.unusedVariables false
set_option linter.unusedSimpArgs false
def in_int (x : Int) : Prop := IntKind.min .i64 ≤ x ∧ x ≤ IntKind.max .i64
def in_str (x : ByteArray) : Prop := x.size ≤ 9223372036854775807
def s_str (x : ByteArray) : Nat := x.size
def b_str (x : ByteArray) : Prop := x.size ≤ 1048576
theorem b_of_str {x : ByteArray} (h : s_str x ≤ 1048576) : b_str x := h
theorem bneB (a b : Bool) : (a != b) = !decide (a = b) := by cases a <;> cases b <;> rfl
theorem beqB (a b : Bool) : (a == b) = decide (a = b) := by cases a <;> cases b <;> rfl
theorem list_eq_iff' {α : Type} [DecidableEq α] {a b : List α} (h : a.length = b.length) : (a = b) ↔ ∀ j, j < a.length → (decide (a[j]? = b[j]?)) = true := by
 constructor
 ·rintro rfl j _; simp
 ·intro h2
  apply List.ext_getElem?
  intro j
  by_cases hj : j < a.length
  ·simpa using h2 j hj
  ·rw [List.getElem?_eq_none (by omega), List.getElem?_eq_none (by omega)]
/-- How much of what is left is taken. -/
def sub1 (l : Int) (s : Nat) : Int := if (s : Int) ≤ l then l - s else -1
theorem sub1_pos {l : Int} {s : Nat} (h : (s : Int) ≤ l) : sub1 l s = l - s := if_pos h
theorem sub1_neg {l : Int} {s : Nat} (h : ¬ (s : Int) ≤ l) : sub1 l s = -1 := if_neg h
def sumL {α : Type} (s : α → Nat) (a : List α) : Nat := a.length + (a.map s).sum
theorem sumL_len {α : Type} {s : α → Nat} {a : List α} {m : Nat} (h : sumL s a ≤ m) : a.length ≤ m := Nat.le_trans (Nat.le_add_right _ _) h
theorem sum_mem {α : Type} {s : α → Nat} : ∀ {a : List α} {y : α}, y ∈ a → s y ≤ (a.map s).sum
 | [], y, h => by simp at h
 | x :: a, y, h => by
  rcases List.mem_cons.1 h with rfl | h
  ·simp
  ·have := sum_mem (s := s) h
   simp only [List.map_cons, List.sum_cons]; omega
theorem sumL_mem {α : Type} {s : α → Nat} {a : List α} {y : α} (h : y ∈ a) : s y ≤ sumL s a := Nat.le_trans (sum_mem h) (Nat.le_add_left _ _)
/-- A loop that takes from what is left. -/
theorem szL {α : Type} {a : List α} {s : α → Nat} {g : α → Int → Option Int} {f : Nat → Int → Int → Option Int} (hg : ∀ x ∈ a, ∀ l : Int, 0 ≤ l → l ≤ 1048576 → g x l = some (sub1 l (s x)))
  (hend : ∀ k l, f (k + 1) l (a.length : Int) = some l) (hstep : ∀ k l j (h : j < a.length), f (k + 1) l (j : Int) = (g a[j] l).bind fun r => bif decide (r < 0) then some (-1) else f k r ((j + 1 : Nat) : Int))
  {k : Nat} (hk : a.length < k) {l : Int} (h0 : 0 ≤ l) (h1 : l ≤ 1048576) : f k l 0 = some (sub1 l ((a.map s).sum)) := by
 have := loop (fun k (q : Int × Nat) => f k q.1 (q.2 : Int)) (fun q => 0 ≤ q.1 ∧ q.1 ≤ 1048576 ∧ q.2 ≤ a.length ∧ sub1 q.1 (((a.drop q.2).map s).sum) = sub1 l ((a.map s).sum)) (fun q => a.length - q.2) (fun o => o = some (sub1 l ((a.map s).sum))) (fun k q hs => by
  obtain ⟨v, j⟩ := q
  obtain ⟨g0, g1, g2, g3⟩ := hs
  simp only at g0 g1 g2 g3 ⊢
  by_cases hj : j < a.length
  ·rw [hstep k v j hj, hg a[j] (List.getElem_mem hj) v g0 g1, Option.bind_some]
   rw [List.drop_eq_getElem_cons hj, List.map_cons, List.sum_cons] at g3
   by_cases hc : (s a[j] : Int) ≤ v
   ·right
    refine ⟨(v - s a[j], j + 1), ⟨by simp only; omega, by simp only; omega, hj, ?_⟩, by simp only; omega, ?_⟩
    ·rw [← g3]; simp only [sub1]; split <;> split <;> omega
    ·rw [sub1_pos hc, decide_eq_false (by omega), cond_false]
   ·left
    rw [sub1_neg hc, decide_eq_true (by omega), cond_true]
    rw [← g3, sub1_neg (by omega)]
  ·left
   have : j = a.length := by omega
   subst this
   rw [hend]
   rw [List.drop_length] at g3
   rw [← g3]; simp [sub1, g0]) k (l, 0) (by simpa using hk) ⟨h0, h1, by simp, by simp⟩
 exact this
def mkL {α : Type} (c : α → Nat) (mv : α → Int → α) : List α → Int → List α
 | [], _ => []
 | x :: r, k => mv x k :: mkL c mv r (k + (c x : Int))
def costL {α : Type} (c : α → Nat) (a : List α) : Nat := (a.map c).sum
theorem costL_le {α : Type} {c : α → Nat} (h : ∀ x, c x ≤ 8) : ∀ a : List α, costL c a ≤ 8 * a.length
 | [] => by simp [costL]
 | x :: a => by
  have h1 := h x
  have h2 := costL_le h a
  simp only [costL, List.map_cons, List.sum_cons, List.length_cons] at h2 ⊢; omega
theorem costL_les {α : Type} {c s : α → Nat} (h : ∀ x, c x ≤ 8 + 8 * s x) : ∀ a : List α, costL c a ≤ 8 * sumL s a
 | [] => by simp [costL, sumL]
 | x :: a => by
  have h1 := h x
  have h2 := costL_les h a
  simp only [costL, sumL, List.map_cons, List.sum_cons, List.length_cons] at h2 ⊢; omega
theorem mkL_length {α : Type} (c : α → Nat) (mv : α → Int → α) : ∀ (a : List α) (k : Int), (mkL c mv a k).length = a.length
 | [], k => rfl
 | x :: a, k => by simp [mkL, mkL_length c mv a]
theorem inb_set {α : Type} {xs : List α} {j : Nat} {v : α} {i : Int} : inb i (xs.set j v) = inb i xs := by simp [inb]
theorem at_set {α : Type} {d : α} {xs : List α} {j : Nat} {v : α} (h : j < xs.length) : at_ d (xs.set j v) (j : Int) = v := by simp [at_, h]
theorem set_set {α : Type} {xs : List α} {j : Nat} {a b : α} : (xs.set j a).set j b = xs.set j b := by simp
theorem w64_ok {x : Int} (h0 : 0 ≤ x) (h1 : x ≤ 4611686018427387904) : w64 x = x := w64_id (by omega) (by omega)
theorem not_neg {x : Int} (h : 0 ≤ x) : decide (x < 0) = false := decide_eq_false (by omega)
/-- A loop that marks. -/
theorem markL {α : Type} {c : α → Nat} {mv : α → Int → α} {P : α → Prop} {f : Nat → List α → Int → Int → Option (List α × Int)}
  (hend : ∀ k a2 k2 (j : Nat), j = a2.length → f (k + 1) a2 k2 (j : Int) = some (a2, k2))
  (hstep : ∀ k a2 k2 (j : Nat) (h : j < a2.length), P a2[j] → 0 ≤ k2 → k2 + (c a2[j] : Int) ≤ 4611686018427387904 → j < 1048576 → f (k + 1) a2 k2 (j : Int) = f k (a2.set j (mv a2[j] k2)) (k2 + (c a2[j] : Int)) ((j + 1 : Nat) : Int))
  {a : List α} (hP : ∀ y ∈ a, P y) {k0 : Int} (h0 : 0 ≤ k0) (h1 : k0 + (costL c a : Int) ≤ 4611686018427387904) (hl : a.length ≤ 1048576) {k : Nat} (hk : a.length < k) : f k a k0 0 = some (mkL c mv a k0, k0 + (costL c a : Int)) := by
 have := loop (fun k (q : List α × Int × Nat) => f k q.1 q.2.1 (q.2.2 : Int)) (fun q => ∃ done, q.1 = done ++ a.drop q.2.2 ∧ done.length = q.2.2 ∧ q.2.2 ≤ a.length ∧ done ++ mkL c mv (a.drop q.2.2) q.2.1 = mkL c mv a k0 ∧ q.2.1 + (costL c (a.drop q.2.2) : Int) = k0 + (costL c a : Int) ∧ 0 ≤ q.2.1) (fun q => a.length - q.2.2) (fun o => o = some (mkL c mv a k0, k0 + (costL c a : Int))) (fun k q hs => by
  obtain ⟨a2, k2, j⟩ := q
  obtain ⟨done, g1, g2, g3, g4, g5, g6⟩ := hs
  simp only at g1 g2 g3 g4 g5 g6 ⊢
  by_cases hj : j < a.length
  ·right
   rw [List.drop_eq_getElem_cons hj] at g1 g4 g5
   have hj2 : j < a2.length := by rw [g1]; simp; omega
   have ha2 : a2[j] = a[j] := by
    have : a2[j]? = some a[j] := by rw [g1, List.getElem?_append_right (by omega), g2]; simp
    rw [List.getElem?_eq_getElem hj2] at this
    exact Option.some.inj this
   simp only [costL, List.map_cons, List.sum_cons, Int.natCast_add] at g5
   have hcost : 0 ≤ (((a.drop (j + 1)).map c).sum : Int) := by omega
   refine ⟨(a2.set j (mv a2[j] k2), k2 + (c a2[j] : Int), j + 1), ⟨done ++ [mv a[j] k2], ?_, by simp [g2], hj, ?_, ?_, by simp only; omega⟩, by simp only; omega, ?_⟩
   ·simp only
    rw [ha2, g1, List.set_append_right _ _ (by omega), g2, Nat.sub_self, List.set_cons_zero, List.append_assoc]
    rfl
   ·simp only [ha2]
    rw [← g4]; simp [mkL]
   ·rw [ha2]; simp only [costL] at g5 ⊢; omega
   ·exact hstep k a2 k2 j hj2 (by rw [ha2]; exact hP _ (List.getElem_mem hj)) g6 (by rw [ha2]; simp only [costL] at g5 h1 ⊢; omega) (by omega)
  ·left
   have hja : j = a.length := by omega
   subst hja
   rw [List.drop_length] at g1 g4 g5
   rw [hend k a2 k2 a.length (by rw [g1]; simp [g2])]
   simp only [mkL, List.append_nil] at g1 g4
   simp only [costL, List.map_nil, List.sum_nil] at g5
   rw [g1, g4]
   simp only [costL] at g5 ⊢
   congr 2; omega) k (a, k0, 0) (by simpa using hk) ⟨[], by simp, rfl, by simp, by simp, by simp, h0⟩
 exact this
/-- A loop that looks for the marks. -/
theorem heldL {α : Type} {c : α → Nat} {mv : α → Int → α} {P : α → Prop} {f : Nat → List α → Int → Int → Option Int}
  (hend : ∀ k a2 k2 (j : Nat), j = a2.length → f (k + 1) a2 k2 (j : Int) = some k2)
  (hstep : ∀ k a2 k2 (j : Nat) (y : α) (h : j < a2.length), P y → 0 ≤ k2 → k2 + (c y : Int) ≤ 4611686018427387904 → j < 1048576 → a2[j] = mv y k2 → f (k + 1) a2 k2 (j : Int) = f k a2 (k2 + (c y : Int)) ((j + 1 : Nat) : Int))
  {a : List α} (hP : ∀ y ∈ a, P y) {k0 : Int} (h0 : 0 ≤ k0) (h1 : k0 + (costL c a : Int) ≤ 4611686018427387904) (hl : a.length ≤ 1048576) {k : Nat} (hk : a.length < k) : f k (mkL c mv a k0) k0 0 = some (k0 + (costL c a : Int)) := by
 have hlen := mkL_length c mv a k0
 have := loop (fun k (q : Int × Nat) => f k (mkL c mv a k0) q.1 (q.2 : Int)) (fun q => q.2 ≤ a.length ∧ (mkL c mv a k0).drop q.2 = mkL c mv (a.drop q.2) q.1 ∧ q.1 + (costL c (a.drop q.2) : Int) = k0 + (costL c a : Int) ∧ 0 ≤ q.1) (fun q => a.length - q.2) (fun o => o = some (k0 + (costL c a : Int))) (fun k q hs => by
  obtain ⟨k2, j⟩ := q
  obtain ⟨g3, g4, g5, g6⟩ := hs
  simp only at g3 g4 g5 g6 ⊢
  by_cases hj : j < a.length
  ·right
   have hj2 : j < (mkL c mv a k0).length := by omega
   rw [List.drop_eq_getElem_cons hj2, List.drop_eq_getElem_cons hj] at g4
   simp only [mkL, List.cons.injEq] at g4
   rw [List.drop_eq_getElem_cons hj] at g5
   simp only [costL, List.map_cons, List.sum_cons, Int.natCast_add] at g5
   have hcost : 0 ≤ (((a.drop (j + 1)).map c).sum : Int) := by omega
   refine ⟨(k2 + (c a[j] : Int), j + 1), ⟨hj, g4.2, ?_, by simp only; omega⟩, by simp only; omega, ?_⟩
   ·simp only [costL] at g5 ⊢; omega
   ·exact hstep k _ k2 j a[j] hj2 (hP _ (List.getElem_mem hj)) g6 (by simp only [costL] at g5 h1 ⊢; omega) (by omega) g4.1
  ·left
   have hja : j = a.length := by omega
   subst hja
   rw [List.drop_length] at g5
   rw [hend k _ k2 a.length hlen.symm]
   simp only [costL, List.map_nil, List.sum_nil] at g5 ⊢
   congr 1; omega) k (k0, 0) (by simpa using hk) ⟨by simp, by simp, by simp, h0⟩
 exact this

theorem ofB1 (x : Int) : (ofBytes [x]).size = 1 := rfl
theorem markText_go {N : Nat} : ∀ (m : Nat) (k : Int) (out : ByteArray) (f : Nat), 0 ≤ k → k ≤ 9223372036854775807 → k < 10 ^ m → out.size + m ≤ 1000 → m < f → ∃ s, laws_markText_l0 N f k out = some s
 | 0, k, out, f, h0, hbig, h1, h2, h3 => by
  obtain ⟨f, rfl⟩ : ∃ f', f = f' + 1 := ⟨f - 1, by omega⟩
  have hk : ¬ k > 0 := by
   have : k < 1 := by simpa using h1
   omega
  simp only [laws_markText_l0, laws_markText_l0_b, hk, decide_false, cond_false]
  have : catOk (⟨#[109]⟩ : ByteArray) out = true := decide_eq_true (by show 1 + out.size ≤ _; omega)
  rw [this, grd_true]
  exact ⟨_, rfl⟩
 | m + 1, k, out, f, h0, hbig, h1, h2, h3 => by
  obtain ⟨f, rfl⟩ : ∃ f', f = f' + 1 := ⟨f - 1, by omega⟩
  by_cases hk : k > 0
  ·simp only [laws_markText_l0, laws_markText_l0_b, hk, decide_true, cond_true]
   have hc : ∀ x : Int, catOk (ofBytes [x]) out = true := fun x => decide_eq_true (by rw [ofB1]; omega)
   rw [grz_ne (by decide), hc, grd_true, grz_ne (by decide)]
   have hd0 : 0 ≤ k.tdiv 10 := Int.tdiv_nonneg h0 (by decide)
   have hp : (10 : Int) ^ (m + 1) = 10 ^ m * 10 := Int.pow_succ _ _
   have hd1 : k.tdiv 10 < 10 ^ m := by
    rw [Int.tdiv_eq_ediv_of_nonneg h0]
    have := Int.ediv_lt_of_lt_mul (a := k) (b := 10 ^ m) (c := 10) (by decide) (by rw [← hp]; exact h1)
    exact this
   have hle : k.tdiv 10 ≤ k := by rw [Int.tdiv_eq_ediv_of_nonneg h0]; exact Int.ediv_le_self _ h0
   rw [w64_id (by omega) (by omega)]
   exact markText_go m _ _ f hd0 (by omega) hd1 (by rw [ByteArray.size_append, ofB1]; omega) (by omega)
  ·simp only [laws_markText_l0, laws_markText_l0_b, hk, decide_false, cond_false]
   have : catOk (⟨#[109]⟩ : ByteArray) out = true := decide_eq_true (by show 1 + out.size ≤ _; omega)
   rw [this, grd_true]
   exact ⟨_, rfl⟩
def mkTx (N : Nat) (k : Int) : ByteArray := (laws_markText N k).getD ⟨#[]⟩
def MtOk (N : Nat) : Prop := ∀ k : Int, 0 ≤ k → k ≤ 4611686018427387904 → laws_markText N k = some (mkTx N k)
theorem mt_ok {N : Nat} (h : MtOk N) {k : Int} (h0 : 0 ≤ k) (h1 : k ≤ 4611686018427387904) : laws_markText N k = some (mkTx N k) := h k h0 h1
theorem mtOk {N : Nat} (hN : 1048576 < N) : MtOk N := by
 intro k h0 h1
 have : ∃ s, laws_markText N k = some s := by
  unfold laws_markText laws_markText_b
  by_cases hk : k ≤ 0
  ·exact ⟨_, by rw [decide_eq_true hk]; rfl⟩
  ·rw [decide_eq_false hk, cond_false]
   exact markText_go 19 k _ N h0 (by omega) (by omega) (by decide) (by omega)
 obtain ⟨s, hs⟩ := this
 rw [mkTx, hs]; rfl
abbrev T_IntS := List Int
def in_IntS (a : T_IntS) : Prop := a.length ≤ 9223372036854775807 ∧ ∀ y ∈ a, in_int y
def s_IntS (a : T_IntS) : Nat := a.length
def b_IntS (a : T_IntS) : Prop := a.length ≤ 1048576
theorem b_of_IntS {a : T_IntS} (h : s_IntS a ≤ 1048576) : b_IntS a := h
theorem fto_IntS {N : Nat} {a : T_IntS} (h : b_IntS a) (hN : 1048576 < N) : laws_toIntS N a = some a := by
 have hl : a.length ≤ 1048576 := h
 unfold laws_toIntS laws_toIntS_b
 rw [makeOk_lt (by omega), grd_true]
 refine fill (b := a) (fun k out i => laws_toIntS_l0 N k a out i) (fun k out => by simp [laws_toIntS_l0, laws_toIntS_l0_b]) (fun k out j h1 h3 => ?_) (by omega) (by simp)
 have h2 : j < out.length := by omega
 have hj : (j : Int) < (a.length : Int) := by omega
 simp [laws_toIntS_l0, laws_toIntS_l0_b, hj, inb_lt h1, inb_lt h2, at_lt h1, w64_succ (show j < 4611686018427387904 by omega)]
theorem feq_IntS {N : Nat} {a b : T_IntS} (h : b_IntS a) (hN : 1048576 < N) : laws_eqIntS N a b = some (decide (a = b)) := by
 have hla : a.length ≤ 1048576 := h
 unfold laws_eqIntS laws_eqIntS_b
 by_cases hl : a.length = b.length
 ·have h0 : ((a.length : Int) != (b.length : Int)) = false := by simp [hl]
  rw [h0, cond_false, decide_eq_decide.2 (list_eq_iff' hl)]
  refine every (n := a.length) (fun j => decide (a[j]? = b[j]?)) (fun k i => laws_eqIntS_l0 N k a b i) (fun k => by simp [laws_eqIntS_l0, laws_eqIntS_l0_b]) (fun k j hj => ?_) (by omega)
  have h1 : (j : Int) < (a.length : Int) := by omega
  have h2 : j < b.length := by omega
  simp only [laws_eqIntS_l0, laws_eqIntS_l0_b, h1, decide_true, cond_true, inb_lt hj, inb_lt h2, grd_true, at_lt hj, at_lt h2, bneI, ite_dec, w64_succ (show j < 4611686018427387904 by omega), List.getElem?_eq_getElem hj, List.getElem?_eq_getElem h2, Option.some.injEq]
 ·have h0 : ((a.length : Int) != (b.length : Int)) = true := by simp; omega
  rw [h0, cond_true]
  have : a ≠ b := fun h => hl (by rw [h])
  simp [this]
theorem fsz_IntS {N : Nat} {a : T_IntS} {l : Int} (h : in_IntS a) (h0 : 0 ≤ l) (h1 : l ≤ 1048576) (hN : 1048576 < N) : laws_szIntS N a l = some (sub1 l (s_IntS a)) := by
 have := h.1
 unfold laws_szIntS s_IntS sub1
 rw [w64_id (by omega) (by omega)]
 by_cases h : (a.length : Int) ≤ l
 ·rw [if_pos h, decide_eq_false (by omega)]; rfl
 ·rw [if_neg h, decide_eq_true (by omega)]; rfl
def me_IntS (N : Nat) (x : Int) (k : Int) : Int := k
def ce_IntS (x : Int) : Nat := 1
def mk_IntS (N : Nat) (a : T_IntS) (k : Int) : T_IntS := mkL ce_IntS (me_IntS N) a k
def c_IntS (a : T_IntS) : Nat := costL ce_IntS a
theorem c_s_IntS (a : T_IntS) : c_IntS a ≤ 8 * s_IntS a := costL_le (c := ce_IntS) (fun x => by show 1 ≤ 8; omega) a
theorem fmk_IntS {N : Nat} {a : T_IntS} {k : Int} (h : b_IntS a) (h0 : 0 ≤ k) (h1 : k + (c_IntS a : Int) ≤ 4611686018427387904) (hN : 1048576 < N) : laws_markIntS N a k = some (mk_IntS N a k, k + (c_IntS a : Int)) := by
 have hla : a.length ≤ 1048576 := h
 unfold laws_markIntS laws_markIntS_b
 refine markL (P := fun y => True) (f := fun k a2 k2 i => laws_markIntS_l0 N k a2 k2 i) (fun k a2 k2 j hj => by subst hj; simp [laws_markIntS_l0, laws_markIntS_l0_b]) (fun k a2 k2 j h1 hy h0 hc hl => ?_) (fun _ _ => trivial) h0 h1 (by omega) (by omega)
 have h2 : (j : Int) < (a2.length : Int) := by omega
 simp only [ce_IntS, Int.natCast_add, Int.cast_ofNat_Int, Int.natCast_one] at hc
 simp (disch := first | assumption | omega) only [laws_markIntS_l0, laws_markIntS_l0_b, h2, decide_true, cond_true, inb_lt h1, inb_set, grd_true, grz_ne, letv_eq, at_lt h1, at_set, set_set, Int.toNat_natCast, w64_ok, w64_succ, Option.bind_some, Option.bind_some]
 simp only [ce_IntS, me_IntS, Int.natCast_add, Int.cast_ofNat_Int, Int.natCast_one, Int.add_assoc]
abbrev T_Relation := ByteArray × Int × Int
def in_Relation (x : T_Relation) : Prop := in_str x.1 ∧ in_int x.2.1 ∧ in_int x.2.2
def s_Relation (x : T_Relation) : Nat := s_str x.1
def b_Relation (x : T_Relation) : Prop := b_str x.1
theorem b_of_Relation {x : T_Relation} (h : s_Relation x ≤ 1048576) : b_Relation x := b_of_str (by unfold s_Relation at h; omega)
theorem fto_Relation {N : Nat} {x : T_Relation} (h : b_Relation x) (hN : 1048576 < N) : laws_toRelation N x = some x := by
 simp [laws_toRelation]
theorem feq_Relation {N : Nat} {x y : T_Relation} (h : b_Relation x) (hN : 1048576 < N) : laws_eqRelation N x y = some (decide (x = y)) := by
 simp only [laws_eqRelation, bneI, bneB, beqB, seq_eq, Option.bind_some]
 obtain ⟨x0, x1, x2⟩ := x
 obtain ⟨y0, y1, y2⟩ := y
 simp only [Prod.mk.injEq]
 by_cases e0 : x0 = y0 <;>
 by_cases e1 : x1 = y1 <;>
 by_cases e2 : x2 = y2 <;> simp [e0, e1, e2]
theorem fsz_Relation {N : Nat} {x : T_Relation} {l : Int} (h : in_Relation x) (h0 : 0 ≤ l) (h1 : l ≤ 1048576) (hN : 1048576 < N) : laws_szRelation N x l = some (sub1 l (s_Relation x)) := by
 have : x.1.size ≤ 9223372036854775807 := h.1
 unfold laws_szRelation s_Relation s_str sub1
 rw [w64_id (by omega) (by omega)]
 by_cases h : (x.1.size : Int) ≤ l
 ·rw [if_pos h, decide_eq_false (by omega)]; rfl
 ·rw [if_neg h, decide_eq_true (by omega)]; rfl
abbrev T_RelationS := List T_Relation
def in_RelationS (a : T_RelationS) : Prop := a.length ≤ 9223372036854775807 ∧ ∀ y ∈ a, in_Relation y
def s_RelationS (a : T_RelationS) : Nat := sumL s_Relation a
def b_RelationS (a : T_RelationS) : Prop := a.length ≤ 1048576 ∧ ∀ y ∈ a, b_Relation y
theorem b_of_RelationS {a : T_RelationS} (h : s_RelationS a ≤ 1048576) : b_RelationS a := ⟨(sumL_len h), fun y hy => b_of_Relation (Nat.le_trans (sumL_mem hy) h)⟩
theorem fto_RelationS {N : Nat} {a : T_RelationS} (h : b_RelationS a) (hN : 1048576 < N) : laws_toRelationS N a = some a := by
 have hl : a.length ≤ 1048576 := h.1
 unfold laws_toRelationS laws_toRelationS_b
 rw [makeOk_lt (by omega), grd_true]
 refine fill (b := a) (fun k out i => laws_toRelationS_l0 N k a out i) (fun k out => by simp [laws_toRelationS_l0, laws_toRelationS_l0_b]) (fun k out j h1 h3 => ?_) (by omega) (by simp)
 have h2 : j < out.length := by omega
 have hj : (j : Int) < (a.length : Int) := by omega
 simp [laws_toRelationS_l0, laws_toRelationS_l0_b, hj, inb_lt h1, inb_lt h2, at_lt h1, fto_Relation (h.2 _ (List.getElem_mem h1)) hN, w64_succ (show j < 4611686018427387904 by omega)]
theorem feq_RelationS {N : Nat} {a b : T_RelationS} (h : b_RelationS a) (hN : 1048576 < N) : laws_eqRelationS N a b = some (decide (a = b)) := by
 have hla : a.length ≤ 1048576 := h.1
 unfold laws_eqRelationS laws_eqRelationS_b
 by_cases hl : a.length = b.length
 ·have h0 : ((a.length : Int) != (b.length : Int)) = false := by simp [hl]
  rw [h0, cond_false, decide_eq_decide.2 (list_eq_iff' hl)]
  refine every (n := a.length) (fun j => decide (a[j]? = b[j]?)) (fun k i => laws_eqRelationS_l0 N k a b i) (fun k => by simp [laws_eqRelationS_l0, laws_eqRelationS_l0_b]) (fun k j hj => ?_) (by omega)
  have h1 : (j : Int) < (a.length : Int) := by omega
  have h2 : j < b.length := by omega
  simp only [laws_eqRelationS_l0, laws_eqRelationS_l0_b, h1, decide_true, cond_true, inb_lt hj, inb_lt h2, grd_true, at_lt hj, at_lt h2, feq_Relation (h.2 _ (List.getElem_mem hj)) hN, Option.bind_some, ite_dec, w64_succ (show j < 4611686018427387904 by omega), List.getElem?_eq_getElem hj, List.getElem?_eq_getElem h2, Option.some.injEq]
 ·have h0 : ((a.length : Int) != (b.length : Int)) = true := by simp; omega
  rw [h0, cond_true]
  have : a ≠ b := fun h => hl (by rw [h])
  simp [this]
theorem fsz_RelationS {N : Nat} {a : T_RelationS} {l : Int} (h : in_RelationS a) (h0 : 0 ≤ l) (h1 : l ≤ 1048576) (hN : 1048576 < N) : laws_szRelationS N a l = some (sub1 l (s_RelationS a)) := by
 have hlen := h.1
 unfold laws_szRelationS laws_szRelationS_b
 rw [w64_id (by omega) (by omega)]
 by_cases hc : (a.length : Int) ≤ l
 ·rw [decide_eq_false (by omega), cond_false]
  rw [szL (a := a) (s := s_Relation) (g := fun x l => laws_szRelation N x l) (f := fun k l i => laws_szRelationS_l0 N k a l i) (fun x hx l h0 h1 => fsz_Relation (h.2 x hx) h0 h1 hN) (fun k l => by simp [laws_szRelationS_l0, laws_szRelationS_l0_b]) (fun k l j hj => by
    have h2 : (j : Int) < (a.length : Int) := by omega
    simp only [laws_szRelationS_l0, laws_szRelationS_l0_b, h2, decide_true, cond_true, inb_lt hj, grd_true, at_lt hj, w64_succ (show j < 4611686018427387904 by omega)]) (by omega) (by omega) (by omega)]
  unfold s_RelationS sumL sub1
  congr 1
  split <;> split <;> omega
 ·rw [decide_eq_true (by omega), cond_true]
  unfold s_RelationS sumL sub1
  rw [if_neg (by omega)]
def me_RelationS (N : Nat) (x : T_Relation) (k : Int) : T_Relation := (mkTx N (k), (k + 1), (k + 1 + 1))
def ce_RelationS (x : T_Relation) : Nat := 1 + 1 + 1
def mk_RelationS (N : Nat) (a : T_RelationS) (k : Int) : T_RelationS := mkL ce_RelationS (me_RelationS N) a k
def c_RelationS (a : T_RelationS) : Nat := costL ce_RelationS a
theorem c_s_RelationS (a : T_RelationS) : c_RelationS a ≤ 8 * s_RelationS a := costL_les (c := ce_RelationS) (fun x => by unfold ce_RelationS s_Relation; omega) a
theorem fmk_RelationS {N : Nat} (hm : MtOk N) {a : T_RelationS} {k : Int} (h : b_RelationS a) (h0 : 0 ≤ k) (h1 : k + (c_RelationS a : Int) ≤ 4611686018427387904) (hN : 1048576 < N) : laws_markRelationS N a k = some (mk_RelationS N a k, k + (c_RelationS a : Int)) := by
 have hla : a.length ≤ 1048576 := h.1
 unfold laws_markRelationS laws_markRelationS_b
 refine markL (P := fun y => b_Relation y) (f := fun k a2 k2 i => laws_markRelationS_l0 N k a2 k2 i) (fun k a2 k2 j hj => by subst hj; simp [laws_markRelationS_l0, laws_markRelationS_l0_b]) (fun k a2 k2 j h1 hy h0 hc hl => ?_) h.2 h0 h1 (by omega) (by omega)
 have h2 : (j : Int) < (a2.length : Int) := by omega
 simp only [ce_RelationS, Int.natCast_add, Int.cast_ofNat_Int, Int.natCast_one] at hc
 simp (disch := first | assumption | omega) only [laws_markRelationS_l0, laws_markRelationS_l0_b, h2, decide_true, cond_true, inb_lt h1, inb_set, grd_true, grz_ne, letv_eq, at_lt h1, at_set, set_set, Int.toNat_natCast, w64_ok, w64_succ, Option.bind_some, mt_ok hm, Option.bind_some]
 simp only [ce_RelationS, me_RelationS, Int.natCast_add, Int.cast_ofNat_Int, Int.natCast_one, Int.add_assoc]
abbrev T_Fact := Int × List Int
def in_Fact (x : T_Fact) : Prop := in_int x.1 ∧ in_IntS x.2
def s_Fact (x : T_Fact) : Nat := s_IntS x.2
def b_Fact (x : T_Fact) : Prop := b_IntS x.2
theorem b_of_Fact {x : T_Fact} (h : s_Fact x ≤ 1048576) : b_Fact x := b_of_IntS (by unfold s_Fact at h; omega)
theorem fto_Fact {N : Nat} {x : T_Fact} (h : b_Fact x) (hN : 1048576 < N) : laws_toFact N x = some x := by
 simp [laws_toFact, fto_IntS h hN]
theorem feq_Fact {N : Nat} {x y : T_Fact} (h : b_Fact x) (hN : 1048576 < N) : laws_eqFact N x y = some (decide (x = y)) := by
 simp only [laws_eqFact, bneI, bneB, beqB, seq_eq, feq_IntS h hN, Option.bind_some]
 obtain ⟨x0, x1⟩ := x
 obtain ⟨y0, y1⟩ := y
 simp only [Prod.mk.injEq]
 by_cases e0 : x0 = y0 <;>
 by_cases e1 : x1 = y1 <;> simp [e0, e1]
theorem fsz_Fact {N : Nat} {x : T_Fact} {l : Int} (h : in_Fact x) (h0 : 0 ≤ l) (h1 : l ≤ 1048576) (hN : 1048576 < N) : laws_szFact N x l = some (sub1 l (s_Fact x)) := by
 unfold laws_szFact s_Fact
 rw [fsz_IntS (l := l) h.2 (by omega) (by omega) hN, Option.bind_some]
 unfold sub1
 split
 ·rw [decide_eq_false (by omega)]; rfl
 ·rfl
abbrev T_FactS := List T_Fact
def in_FactS (a : T_FactS) : Prop := a.length ≤ 9223372036854775807 ∧ ∀ y ∈ a, in_Fact y
def s_FactS (a : T_FactS) : Nat := sumL s_Fact a
def b_FactS (a : T_FactS) : Prop := a.length ≤ 1048576 ∧ ∀ y ∈ a, b_Fact y
theorem b_of_FactS {a : T_FactS} (h : s_FactS a ≤ 1048576) : b_FactS a := ⟨(sumL_len h), fun y hy => b_of_Fact (Nat.le_trans (sumL_mem hy) h)⟩
theorem fto_FactS {N : Nat} {a : T_FactS} (h : b_FactS a) (hN : 1048576 < N) : laws_toFactS N a = some a := by
 have hl : a.length ≤ 1048576 := h.1
 unfold laws_toFactS laws_toFactS_b
 rw [makeOk_lt (by omega), grd_true]
 refine fill (b := a) (fun k out i => laws_toFactS_l0 N k a out i) (fun k out => by simp [laws_toFactS_l0, laws_toFactS_l0_b]) (fun k out j h1 h3 => ?_) (by omega) (by simp)
 have h2 : j < out.length := by omega
 have hj : (j : Int) < (a.length : Int) := by omega
 simp [laws_toFactS_l0, laws_toFactS_l0_b, hj, inb_lt h1, inb_lt h2, at_lt h1, fto_Fact (h.2 _ (List.getElem_mem h1)) hN, w64_succ (show j < 4611686018427387904 by omega)]
theorem feq_FactS {N : Nat} {a b : T_FactS} (h : b_FactS a) (hN : 1048576 < N) : laws_eqFactS N a b = some (decide (a = b)) := by
 have hla : a.length ≤ 1048576 := h.1
 unfold laws_eqFactS laws_eqFactS_b
 by_cases hl : a.length = b.length
 ·have h0 : ((a.length : Int) != (b.length : Int)) = false := by simp [hl]
  rw [h0, cond_false, decide_eq_decide.2 (list_eq_iff' hl)]
  refine every (n := a.length) (fun j => decide (a[j]? = b[j]?)) (fun k i => laws_eqFactS_l0 N k a b i) (fun k => by simp [laws_eqFactS_l0, laws_eqFactS_l0_b]) (fun k j hj => ?_) (by omega)
  have h1 : (j : Int) < (a.length : Int) := by omega
  have h2 : j < b.length := by omega
  simp only [laws_eqFactS_l0, laws_eqFactS_l0_b, h1, decide_true, cond_true, inb_lt hj, inb_lt h2, grd_true, at_lt hj, at_lt h2, feq_Fact (h.2 _ (List.getElem_mem hj)) hN, Option.bind_some, ite_dec, w64_succ (show j < 4611686018427387904 by omega), List.getElem?_eq_getElem hj, List.getElem?_eq_getElem h2, Option.some.injEq]
 ·have h0 : ((a.length : Int) != (b.length : Int)) = true := by simp; omega
  rw [h0, cond_true]
  have : a ≠ b := fun h => hl (by rw [h])
  simp [this]
theorem fsz_FactS {N : Nat} {a : T_FactS} {l : Int} (h : in_FactS a) (h0 : 0 ≤ l) (h1 : l ≤ 1048576) (hN : 1048576 < N) : laws_szFactS N a l = some (sub1 l (s_FactS a)) := by
 have hlen := h.1
 unfold laws_szFactS laws_szFactS_b
 rw [w64_id (by omega) (by omega)]
 by_cases hc : (a.length : Int) ≤ l
 ·rw [decide_eq_false (by omega), cond_false]
  rw [szL (a := a) (s := s_Fact) (g := fun x l => laws_szFact N x l) (f := fun k l i => laws_szFactS_l0 N k a l i) (fun x hx l h0 h1 => fsz_Fact (h.2 x hx) h0 h1 hN) (fun k l => by simp [laws_szFactS_l0, laws_szFactS_l0_b]) (fun k l j hj => by
    have h2 : (j : Int) < (a.length : Int) := by omega
    simp only [laws_szFactS_l0, laws_szFactS_l0_b, h2, decide_true, cond_true, inb_lt hj, grd_true, at_lt hj, w64_succ (show j < 4611686018427387904 by omega)]) (by omega) (by omega) (by omega)]
  unfold s_FactS sumL sub1
  congr 1
  split <;> split <;> omega
 ·rw [decide_eq_true (by omega), cond_true]
  unfold s_FactS sumL sub1
  rw [if_neg (by omega)]
def me_FactS (N : Nat) (x : T_Fact) (k : Int) : T_Fact := ((k), mk_IntS N x.2 (k + 1))
def ce_FactS (x : T_Fact) : Nat := 1 + c_IntS x.2
def mk_FactS (N : Nat) (a : T_FactS) (k : Int) : T_FactS := mkL ce_FactS (me_FactS N) a k
def c_FactS (a : T_FactS) : Nat := costL ce_FactS a
theorem c_s_FactS (a : T_FactS) : c_FactS a ≤ 8 * s_FactS a := costL_les (c := ce_FactS) (fun x => by have h0 := c_s_IntS x.2; unfold ce_FactS s_Fact; omega) a
theorem fmk_FactS {N : Nat} {a : T_FactS} {k : Int} (h : b_FactS a) (h0 : 0 ≤ k) (h1 : k + (c_FactS a : Int) ≤ 4611686018427387904) (hN : 1048576 < N) : laws_markFactS N a k = some (mk_FactS N a k, k + (c_FactS a : Int)) := by
 have hla : a.length ≤ 1048576 := h.1
 unfold laws_markFactS laws_markFactS_b
 refine markL (P := fun y => b_Fact y) (f := fun k a2 k2 i => laws_markFactS_l0 N k a2 k2 i) (fun k a2 k2 j hj => by subst hj; simp [laws_markFactS_l0, laws_markFactS_l0_b]) (fun k a2 k2 j h1 hy h0 hc hl => ?_) h.2 h0 h1 (by omega) (by omega)
 have h2 : (j : Int) < (a2.length : Int) := by omega
 have hy0 : b_IntS a2[j].2 := hy
 simp only [ce_FactS, Int.natCast_add, Int.cast_ofNat_Int, Int.natCast_one] at hc
 simp (disch := first | assumption | omega) only [laws_markFactS_l0, laws_markFactS_l0_b, h2, decide_true, cond_true, inb_lt h1, inb_set, grd_true, grz_ne, letv_eq, at_lt h1, at_set, set_set, Int.toNat_natCast, w64_ok, w64_succ, Option.bind_some, fmk_IntS]
 simp only [ce_FactS, me_FactS, Int.natCast_add, Int.cast_ofNat_Int, Int.natCast_one, Int.add_assoc]
abbrev T_Database := (List (ByteArray × Int × Int)) × List (Int × List Int)
def in_Database (x : T_Database) : Prop := in_RelationS x.1 ∧ in_FactS x.2
def s_Database (x : T_Database) : Nat := s_RelationS x.1 + s_FactS x.2
def b_Database (x : T_Database) : Prop := b_RelationS x.1 ∧ b_FactS x.2
theorem b_of_Database {x : T_Database} (h : s_Database x ≤ 1048576) : b_Database x := ⟨b_of_RelationS (by unfold s_Database at h; omega), b_of_FactS (by unfold s_Database at h; omega)⟩
theorem fto_Database {N : Nat} {x : T_Database} (h : b_Database x) (hN : 1048576 < N) : laws_toDatabase N x = some x := by
 simp [laws_toDatabase, fto_RelationS h.1 hN, fto_FactS h.2 hN]
theorem feq_Database {N : Nat} {x y : T_Database} (h : b_Database x) (hN : 1048576 < N) : laws_eqDatabase N x y = some (decide (x = y)) := by
 simp only [laws_eqDatabase, bneI, bneB, beqB, seq_eq, feq_RelationS h.1 hN, feq_FactS h.2 hN, Option.bind_some]
 obtain ⟨x0, x1⟩ := x
 obtain ⟨y0, y1⟩ := y
 simp only [Prod.mk.injEq]
 by_cases e0 : x0 = y0 <;>
 by_cases e1 : x1 = y1 <;> simp [e0, e1]
theorem fsz_Database {N : Nat} {x : T_Database} {l : Int} (h : in_Database x) (h0 : 0 ≤ l) (h1 : l ≤ 1048576) (hN : 1048576 < N) : laws_szDatabase N x l = some (sub1 l (s_Database x)) := by
 unfold laws_szDatabase s_Database
 rw [fsz_RelationS (l := l) h.1 (by omega) (by omega) hN, Option.bind_some]
 by_cases c0 : (s_RelationS x.1 : Int) ≤ l
 case neg => rw [sub1_neg c0]; rw [sub1_neg (by omega)]; rfl
 rw [sub1_pos c0, decide_eq_false (show ¬ l - (s_RelationS x.1 : Int) < 0 by omega), cond_false]
 rw [fsz_FactS (l := (l - (s_RelationS x.1 : Int))) h.2 (by omega) (by omega) hN, Option.bind_some]
 by_cases c1 : (s_FactS x.2 : Int) ≤ (l - (s_RelationS x.1 : Int))
 case neg => rw [sub1_neg c1]; rw [sub1_neg (by omega)]; rfl
 rw [sub1_pos c1, decide_eq_false (show ¬ (l - (s_RelationS x.1 : Int)) - (s_FactS x.2 : Int) < 0 by omega), cond_false]
 rw [sub1_pos (by omega)]; congr 1; omega
def mk_Database (N : Nat) (x : T_Database) (k : Int) : T_Database := (mk_RelationS N x.1 (k), mk_FactS N x.2 (k + (c_RelationS x.1 : Int)))
def c_Database (x : T_Database) : Nat := c_RelationS x.1 + c_FactS x.2
theorem c_s_Database (x : T_Database) : c_Database x ≤ 8 * s_Database x := by have h0 := c_s_RelationS x.1; have h1 := c_s_FactS x.2; unfold c_Database s_Database; omega
theorem fmk_Database {N : Nat} (hm : MtOk N) {x : T_Database} {k : Int} (h : b_Database x) (h0 : 0 ≤ k) (h1 : k + (c_Database x : Int) ≤ 4611686018427387904) (hN : 1048576 < N) : laws_markDatabase N x k = some (mk_Database N x k, k + (c_Database x : Int)) := by
 have hb0 : b_RelationS x.1 := h.1
 have hb1 : b_FactS x.2 := h.2
 simp only [c_Database, Int.natCast_add] at h1
 simp (disch := first | assumption | omega) only [laws_markDatabase, Option.bind_some, fmk_RelationS hm, fmk_FactS]
 simp only [mk_Database, c_Database, Int.natCast_add, Int.add_assoc]
abbrev T_GroupRange := Int × Int × Int × Bool
theorem feq_GroupRange {N : Nat} {x y : T_GroupRange} (hN : 1048576 < N) : laws_eqGroupRange N x y = some (decide (x = y)) := by
 simp only [laws_eqGroupRange, bneI, bneB, beqB, seq_eq, Option.bind_some]
 obtain ⟨x0, x1, x2, x3⟩ := x
 obtain ⟨y0, y1, y2, y3⟩ := y
 simp only [Prod.mk.injEq]
 by_cases e0 : x0 = y0 <;>
 by_cases e1 : x1 = y1 <;>
 by_cases e2 : x2 = y2 <;>
 by_cases e3 : x3 = y3 <;> simp [e0, e1, e2, e3]
abbrev T_GroupRangeS := List T_GroupRange
def s_GroupRangeS (a : T_GroupRangeS) : Nat := a.length
def b_GroupRangeS (a : T_GroupRangeS) : Prop := a.length ≤ 1048576
theorem feq_GroupRangeS {N : Nat} {a b : T_GroupRangeS} (h : b_GroupRangeS a) (hN : 1048576 < N) : laws_eqGroupRangeS N a b = some (decide (a = b)) := by
 have hla : a.length ≤ 1048576 := h
 unfold laws_eqGroupRangeS laws_eqGroupRangeS_b
 by_cases hl : a.length = b.length
 ·have h0 : ((a.length : Int) != (b.length : Int)) = false := by simp [hl]
  rw [h0, cond_false, decide_eq_decide.2 (list_eq_iff' hl)]
  refine every (n := a.length) (fun j => decide (a[j]? = b[j]?)) (fun k i => laws_eqGroupRangeS_l0 N k a b i) (fun k => by simp [laws_eqGroupRangeS_l0, laws_eqGroupRangeS_l0_b]) (fun k j hj => ?_) (by omega)
  have h1 : (j : Int) < (a.length : Int) := by omega
  have h2 : j < b.length := by omega
  simp only [laws_eqGroupRangeS_l0, laws_eqGroupRangeS_l0_b, h1, decide_true, cond_true, inb_lt hj, inb_lt h2, grd_true, at_lt hj, at_lt h2, feq_GroupRange  hN, Option.bind_some, ite_dec, w64_succ (show j < 4611686018427387904 by omega), List.getElem?_eq_getElem hj, List.getElem?_eq_getElem h2, Option.some.injEq]
 ·have h0 : ((a.length : Int) != (b.length : Int)) = true := by simp; omega
  rw [h0, cond_true]
  have : a ≠ b := fun h => hl (by rw [h])
  simp [this]
def me_GroupRangeS (N : Nat) (x : T_GroupRange) (k : Int) : T_GroupRange := ((k), (k + 1), (k + 1 + 1), ((k + 1 + 1 + 1).tmod 3 == 0))
def ce_GroupRangeS (x : T_GroupRange) : Nat := 1 + 1 + 1 + 1
def mk_GroupRangeS (N : Nat) (a : T_GroupRangeS) (k : Int) : T_GroupRangeS := mkL ce_GroupRangeS (me_GroupRangeS N) a k
def c_GroupRangeS (a : T_GroupRangeS) : Nat := costL ce_GroupRangeS a
theorem c_s_GroupRangeS (a : T_GroupRangeS) : c_GroupRangeS a ≤ 8 * s_GroupRangeS a := costL_le (c := ce_GroupRangeS) (fun x => by unfold ce_GroupRangeS; omega) a
theorem fmk_GroupRangeS {N : Nat} {a : T_GroupRangeS} {k : Int} (h : b_GroupRangeS a) (h0 : 0 ≤ k) (h1 : k + (c_GroupRangeS a : Int) ≤ 4611686018427387904) (hN : 1048576 < N) : laws_markGroupRangeS N a k = some (mk_GroupRangeS N a k, k + (c_GroupRangeS a : Int)) := by
 have hla : a.length ≤ 1048576 := h
 unfold laws_markGroupRangeS laws_markGroupRangeS_b
 refine markL (P := fun y => True) (f := fun k a2 k2 i => laws_markGroupRangeS_l0 N k a2 k2 i) (fun k a2 k2 j hj => by subst hj; simp [laws_markGroupRangeS_l0, laws_markGroupRangeS_l0_b]) (fun k a2 k2 j h1 hy h0 hc hl => ?_) (fun _ _ => trivial) h0 h1 (by omega) (by omega)
 have h2 : (j : Int) < (a2.length : Int) := by omega
 simp only [ce_GroupRangeS, Int.natCast_add, Int.cast_ofNat_Int, Int.natCast_one] at hc
 simp (disch := first | assumption | omega) only [laws_markGroupRangeS_l0, laws_markGroupRangeS_l0_b, h2, decide_true, cond_true, inb_lt h1, inb_set, grd_true, grz_ne, letv_eq, at_lt h1, at_set, set_set, Int.toNat_natCast, w64_ok, w64_succ, Option.bind_some, Option.bind_some]
 simp only [ce_GroupRangeS, me_GroupRangeS, Int.natCast_add, Int.cast_ofNat_Int, Int.natCast_one, Int.add_assoc]
theorem fhd_GroupRangeS {N : Nat} {a : T_GroupRangeS} {k : Int} (h : b_GroupRangeS a) (h0 : 0 ≤ k) (h1 : k + (c_GroupRangeS a : Int) ≤ 4611686018427387904) (hN : 1048576 < N) : laws_heldGroupRangeS N (mk_GroupRangeS N a k) k = some (k + (c_GroupRangeS a : Int)) := by
 have hla : a.length ≤ 1048576 := h
 unfold laws_heldGroupRangeS laws_heldGroupRangeS_b
 refine heldL (P := fun y => True) (f := fun k a2 k2 i => laws_heldGroupRangeS_l0 N k a2 k2 i) (fun k a2 k2 j hj => by subst hj; simp [laws_heldGroupRangeS_l0, laws_heldGroupRangeS_l0_b]) (fun k a2 k2 j y h1 hy h0 hc hl he => ?_) (fun _ _ => trivial) h0 h1 (by omega) (by omega)
 have h2 : (j : Int) < (a2.length : Int) := by omega
 simp only [ce_GroupRangeS, Int.natCast_add, Int.cast_ofNat_Int, Int.natCast_one] at hc
 simp only [laws_heldGroupRangeS_l0, laws_heldGroupRangeS_l0_b, h2, decide_true, cond_true, inb_lt h1, grd_true, at_lt h1, he, me_GroupRangeS]
 simp (disch := first | assumption | omega) only [bneI, bneB, beqB, decide_true, Bool.not_true, cond_false, w64_ok, w64_succ, Option.bind_some, not_neg, grz_ne, Int.add_assoc, Option.bind_some]
 simp only [ce_GroupRangeS, Int.natCast_add, Int.cast_ofNat_Int, Int.natCast_one, Int.add_assoc]
end Go.PL
namespace Go.PL
set_option linter.unusedVariables false
/-- A loop that appends a piece for each element. -/
theorem collect {α β : Type} {a : List α} (piece : α → List β) {f : Nat → List β → Int → Option (List β)} (hp : ∀ x ∈ a, (piece x).length ≤ 1) (hend : ∀ k out, f (k + 1) out (a.length : Int) = some out)
  (hstep : ∀ k out j (h : j < a.length), out.length ≤ j → f (k + 1) out (j : Int) = f k (out ++ piece a[j]) ((j + 1 : Nat) : Int)) {k : Nat} (hk : a.length < k) : f k [] 0 = some (a.flatMap piece) := by
 have := loop (fun k (q : List β × Nat) => f k q.1 (q.2 : Int)) (fun q => q.2 ≤ a.length ∧ q.1.length ≤ q.2 ∧ q.1 ++ (a.drop q.2).flatMap piece = a.flatMap piece) (fun q => a.length - q.2) (fun o => o = some (a.flatMap piece)) (fun k q hs => by
  obtain ⟨out, j⟩ := q
  obtain ⟨h1, h2, h3⟩ := hs
  simp only at h1 h2 h3 ⊢
  by_cases hj : j < a.length
  ·right
   refine ⟨(out ++ piece a[j], j + 1), ⟨hj, ?_, ?_⟩, by simp only; omega, hstep k out j hj h2⟩
   ·have := hp a[j] (List.getElem_mem hj)
    simp only [List.length_append]; omega
   ·rw [← h3, List.drop_eq_getElem_cons hj, List.flatMap_cons, List.append_assoc]
  ·left
   have : j = a.length := by omega
   subst this
   rw [hend, ← h3, List.drop_length]; simp) k ([], 0) (by simpa using hk) ⟨by simp, by simp, by simp⟩
 exact this
theorem flatMap_len {α β : Type} {piece : α → List β} {n : Nat} : ∀ {a : List α}, (∀ x ∈ a, (piece x).length ≤ n) → (a.flatMap piece).length ≤ a.length * n
 | [], _ => by simp
 | x :: a, h => by
  have h1 := h x (by simp)
  have h2 := flatMap_len (a := a) fun y hy => h y (by simp [hy])
  rw [List.flatMap_cons, List.length_append, List.length_cons, Nat.add_mul]; omega

end Go.PL
namespace Go.PL
set_option linter.unusedVariables false
abbrev Rel := ByteArray × Int × Int
abbrev Fact := Int × List Int
abbrev Db := List Rel × List Fact

/-- Small enough for every copy. -/
structure SmallDb (d : Db) : Prop where
 rels : d.1.length ≤ 1048576
 facts : d.2.length ≤ 1048576
 vals : ∀ f ∈ d.2, f.2.length ≤ 1048576
theorem list_eq_iff {α : Type} [DecidableEq α] {a b : List α} (h : a.length = b.length) : (a = b) ↔ ∀ j, j < a.length → (decide (a[j]? = b[j]?)) = true := by
 constructor
 ·rintro rfl j _; simp
 ·intro h2
  apply List.ext_getElem? 
  intro j
  by_cases hj : j < a.length
  ·simpa using h2 j hj
  ·rw [List.getElem?_eq_none (by omega), List.getElem?_eq_none (by omega)]
end Go.PL
namespace Go.PL
set_option linter.unusedVariables false
theorem l1In (N : Nat) (x a b : Int) : spec_l1In N x a b = some (decide (a ≤ x ∧ x ≤ b)) := by
 unfold spec_l1In
 by_cases h : a ≤ x <;> simp [h]
theorem within (N : Nat) (x a b : Int) : impl_within N x a b = some (decide (a ≤ x ∧ x ≤ b)) := by
 unfold impl_within
 by_cases h : a ≤ x <;> simp [h]

def validRel (r : Rel) : Bool := (spec_IsValidRelation 0 r).getD false
theorem specRel (N : Nat) (r : Rel) : spec_IsValidRelation N r = some (validRel r) := by
 have key : ∃ b, spec_IsValidRelation 0 r = some b := by
  unfold spec_IsValidRelation
  by_cases h : r.1.size = 1
  ·have hb : ∃ b, byteAt r.1 0 = some b := by
    unfold byteAt
    have : (0 : Int).toNat < r.1.size := by omega
    exact ⟨r.1[(0 : Int).toNat], by rw [if_pos (by omega), getElem?_pos]⟩
   obtain ⟨b, hb⟩ := hb
   rw [hb]
   simp only [Option.bind_some, l1In]
   cases ((r.1.size : Int) == 1) with
   | false => exact ⟨_, rfl⟩
   | true =>
    cases decide ((b.toNat : Int) ≥ 97) with
    | false => exact ⟨_, rfl⟩
    | true =>
     cases decide ((b.toNat : Int) ≤ 122) with
     | false => exact ⟨_, rfl⟩
     | true =>
      cases decide (1 ≤ r.2.1 ∧ r.2.1 ≤ 3) with
      | false => exact ⟨_, rfl⟩
      | true => exact ⟨_, rfl⟩
  ·have h0 : ((r.1.size : Int) == 1) = false := by rw [beqI]; simp; omega
   rw [h0]; exact ⟨false, rfl⟩
 obtain ⟨b, hb⟩ := key
 have e : spec_IsValidRelation N r = spec_IsValidRelation 0 r := by
  unfold spec_IsValidRelation; simp only [l1In]
 rw [e, validRel, hb]; rfl
theorem implRel (N : Nat) (r : Rel) : impl_IsValidRelation N r = some (validRel r) := by
 rw [← specRel N r]
 unfold impl_IsValidRelation spec_IsValidRelation
 simp only [l1In, within]

def validRels (l : List Rel) : Bool := decide ((∀ j, j < l.length → (validRel (l.getD j (⟨#[]⟩, 0, 0)) && (decide (j = 0) || slt (l.getD (j - 1) (⟨#[]⟩, 0, 0)).1 (l.getD j (⟨#[]⟩, 0, 0)).1)) = true) ∧ l.length ≤ 4)
theorem getD_lt {α : Type} {d : α} {j : Nat} {xs : List α} (h : j < xs.length) : xs.getD j d = xs[j] := by simp [h]
theorem specRels {N : Nat} {l : List Rel} (hl : l.length ≤ 1048576) (hN : 1048576 < N) : spec_AreValidRelations N l = some (validRels l) := by
 unfold spec_AreValidRelations spec_AreValidRelations_b
 rw [everyE (n := l.length) (fun j => validRel (l.getD j (⟨#[]⟩, 0, 0)) && (decide (j = 0) || slt (l.getD (j - 1) (⟨#[]⟩, 0, 0)).1 (l.getD j (⟨#[]⟩, 0, 0)).1)) (some false) (some (decide (l.length ≤ 4))) (fun k i => spec_AreValidRelations_l0 N k l i)
  (fun k => by simp [spec_AreValidRelations_l0, spec_AreValidRelations_l0_b]; omega) (fun k j hj => ?_) (by omega)]
 ·unfold validRels
  by_cases h : ∀ j, j < l.length → (validRel (l.getD j (⟨#[]⟩, 0, 0)) && (decide (j = 0) || slt (l.getD (j - 1) (⟨#[]⟩, 0, 0)).1 (l.getD j (⟨#[]⟩, 0, 0)).1)) = true
  ·rw [if_pos h]; congr 1; exact decide_eq_decide.2 ⟨fun h2 => ⟨h, h2⟩, fun h2 => h2.2⟩
  ·rw [if_neg h]; congr 1; symm; exact decide_eq_false fun h2 => h h2.1
 ·have h1 : (j : Int) < (l.length : Int) := by omega
  simp only [spec_AreValidRelations_l0, spec_AreValidRelations_l0_b, h1, decide_true, cond_true, inb_lt hj, grd_true, at_lt hj, specRel, Option.bind_some, getD_lt hj, w64_succ (show j < 4611686018427387904 by omega)]
  cases validRel l[j] with
  | false => rfl
  | true =>
   simp only [Bool.not_true, cond_false, Bool.true_and]
   by_cases h0 : j = 0
   ·subst h0; simp
   ·have h3 : (j : Int) > 0 := by omega
    have h4 : j - 1 < l.length := by omega
    simp only [h3, decide_true, cond_true, w64_pred (show 0 < j by omega) (by omega), inb_lt h4, grd_true, at_lt h4, h0, decide_false, Bool.false_or, getD_lt h4]
    cases slt l[j - 1].1 l[j].1 <;> rfl
theorem implRels {N : Nat} {l : List Rel} (hl : l.length ≤ 1048576) (hN : 1048576 < N) : impl_AreValidRelations N l = some (validRels l) := by
 rw [← specRels hl hN]
 unfold impl_AreValidRelations impl_AreValidRelations_b spec_AreValidRelations spec_AreValidRelations_b
 rw [everyE (n := l.length) (fun j => validRel (l.getD j (⟨#[]⟩, 0, 0)) && (decide (j = 0) || slt (l.getD (j - 1) (⟨#[]⟩, 0, 0)).1 (l.getD j (⟨#[]⟩, 0, 0)).1)) (some false) (some (decide (l.length ≤ 4))) (fun k i => spec_AreValidRelations_l0 N k l i)
  (fun k => by simp [spec_AreValidRelations_l0, spec_AreValidRelations_l0_b]; omega) (fun k j hj => ?_) (by omega),
  everyE (n := l.length) (fun j => validRel (l.getD j (⟨#[]⟩, 0, 0)) && (decide (j = 0) || slt (l.getD (j - 1) (⟨#[]⟩, 0, 0)).1 (l.getD j (⟨#[]⟩, 0, 0)).1)) (some false) (some (decide (l.length ≤ 4))) (fun k i => impl_AreValidRelations_l0 N k l l (l.length : Int) i)
  (fun k => by simp [impl_AreValidRelations_l0, impl_AreValidRelations_l0_b]; omega) (fun k j hj => ?_) (by omega)]
 ·have h1 : (j : Int) < (l.length : Int) := by omega
  simp only [impl_AreValidRelations_l0, impl_AreValidRelations_l0_b, h1, decide_true, cond_true, inb_lt hj, grd_true, at_lt hj, implRel, Option.bind_some, getD_lt hj, w64_succ (show j < 4611686018427387904 by omega)]
  cases validRel l[j] with
  | false => rfl
  | true =>
   simp only [Bool.not_true, cond_false, Bool.true_and]
   by_cases h0 : j = 0
   ·subst h0; simp
   ·have h3 : (j : Int) > 0 := by omega
    have h4 : j - 1 < l.length := by omega
    simp only [h3, decide_true, cond_true, w64_pred (show 0 < j by omega) (by omega), inb_lt h4, grd_true, at_lt h4, h0, decide_false, Bool.false_or, getD_lt h4]
    cases slt l[j - 1].1 l[j].1 <;> rfl
 ·have h1 : (j : Int) < (l.length : Int) := by omega
  simp only [spec_AreValidRelations_l0, spec_AreValidRelations_l0_b, h1, decide_true, cond_true, inb_lt hj, grd_true, at_lt hj, specRel, Option.bind_some, getD_lt hj, w64_succ (show j < 4611686018427387904 by omega)]
  cases validRel l[j] with
  | false => rfl
  | true =>
   simp only [Bool.not_true, cond_false, Bool.true_and]
   by_cases h0 : j = 0
   ·subst h0; simp
   ·have h3 : (j : Int) > 0 := by omega
    have h4 : j - 1 < l.length := by omega
    simp only [h3, decide_true, cond_true, w64_pred (show 0 < j by omega) (by omega), inb_lt h4, grd_true, at_lt h4, h0, decide_false, Bool.false_or, getD_lt h4]
    cases slt l[j - 1].1 l[j].1 <;> rfl

def validVals (xs : List Int) : Bool := xs.all fun x => decide (0 ≤ x ∧ x ≤ 9)
theorem all_iff {α : Type} {d : α} {xs : List α} {p : α → Bool} : (∀ j, j < xs.length → p (xs.getD j d) = true) ↔ xs.all p = true := by
 rw [List.all_eq_true]
 constructor
 ·intro h x hx
  obtain ⟨i, hi, rfl⟩ := List.mem_iff_getElem.1 hx
  have := h i hi
  rwa [getD_lt hi] at this
 ·intro h j hj
  rw [getD_lt hj]
  exact h _ (List.getElem_mem hj)
/-- A fact's own part: its relation, its length, its values. -/
def fact1 (l : List Rel) (f : Fact) : Bool := decide (0 ≤ f.1 ∧ f.1 ≤ (l.length : Int) - 1) && (decide ((f.2.length : Int) = (l.getD f.1.toNat (⟨#[]⟩, 0, 0)).2.1) && validVals f.2)
theorem specFact {N : Nat} {l : List Rel} {f : Fact} (hl : l.length ≤ 1048576) (hf : f.2.length ≤ 1048576) (hN : 1048576 < N) : spec_IsValidFact N l f = some (validRels l && fact1 l f) := by
 obtain ⟨r, v⟩ := f
 unfold spec_IsValidFact spec_IsValidFact_b
 rw [specRels hl hN, Option.bind_some]
 cases validRels l with
 | false => rfl
 | true =>
  simp only [Bool.not_true, cond_false, l1In, Option.bind_some, Bool.true_and, fact1]
  rw [w64_id (by omega) (by omega)]
  by_cases h : 0 ≤ r ∧ r ≤ (l.length : Int) - 1
  ·have h2 : r.toNat < l.length := by omega
   simp only [h, and_self, decide_true, Bool.not_true, cond_false, inb_int h.1 (show r < l.length by omega), grd_true, at_int h.1 (show r < l.length by omega), bneI, getD_lt h2, Bool.true_and]
   by_cases h3 : (v.length : Int) = l[r.toNat].2.1
   ·simp only [h3, decide_true, Bool.not_true, cond_false, Bool.true_and]
    rw [everyE (n := v.length) (fun j => decide (0 ≤ v.getD j 0 ∧ v.getD j 0 ≤ 9)) (some false) (some true) (fun k i => spec_IsValidFact_l0 N k r v i) (fun k => by simp [spec_IsValidFact_l0, spec_IsValidFact_l0_b]) (fun k j hj => ?_) (by simp only at hf; omega)]
    ·unfold validVals
     by_cases h4 : ∀ j, j < v.length → decide (0 ≤ v.getD j 0 ∧ v.getD j 0 ≤ 9) = true
     ·rw [if_pos h4, (all_iff (d := (0 : Int)) (p := fun x => decide (0 ≤ x ∧ x ≤ 9))).1 h4]
     ·rw [if_neg h4]
      congr 1; symm
      rw [Bool.eq_false_iff]
      exact fun h5 => h4 ((all_iff (d := (0 : Int)) (p := fun x => decide (0 ≤ x ∧ x ≤ 9))).2 h5)
    ·have h1 : (j : Int) < (v.length : Int) := by omega
     simp only at hf
     simp only [spec_IsValidFact_l0, spec_IsValidFact_l0_b, h1, decide_true, cond_true, inb_lt hj, grd_true, at_lt hj, l1In, Option.bind_some, getD_lt hj, w64_succ (show j < 4611686018427387904 by omega), ite_dec]
   ·simp only [h3, decide_false, Bool.not_false, cond_true, Bool.false_and]
  ·simp only [h, decide_false, Bool.not_false, cond_true, Bool.false_and]

def cmpInts : List Int → List Int → Int
 | [], [] => 0
 | [], _ :: _ => -1
 | _ :: _, [] => 1
 | a :: x, b :: y => if a < b then -1 else if a > b then 1 else cmpInts x y
theorem cmpInts_eq : ∀ (a b : List Int), cmpInts a b = 0 ↔ a = b
 | [], [] => by simp [cmpInts]
 | [], _ :: _ => by simp [cmpInts]
 | _ :: _, [] => by simp [cmpInts]
 | a :: x, b :: y => by
  simp only [cmpInts, List.cons.injEq]
  split
  ·rename_i h; constructor
   ·intro h; omega
   ·intro h2; omega
  ·split
   ·rename_i h; constructor
    ·intro h; omega
    ·intro h2; omega
   ·rw [cmpInts_eq x y]
    constructor
    ·intro h; exact ⟨by omega, h⟩
    ·intro h; exact h.2
theorem specInts {N : Nat} {a b : List Int} (ha : a.length ≤ 1048576) (hb : b.length ≤ 1048576) (hN : 1048576 < N) : spec_l3Ints N a b = some (cmpInts a b) := by
 unfold spec_l3Ints spec_l3Ints_b
 have := loop (fun k (j : Nat) => spec_l3Ints_l0 N k a b (j : Int)) (fun j => j ≤ a.length ∧ j ≤ b.length ∧ cmpInts (a.drop j) (b.drop j) = cmpInts a b) (fun j => a.length - j) (fun o => o = some (cmpInts a b)) (fun k j hs => by
  obtain ⟨h1, h2, h3⟩ := hs
  by_cases hj : j < a.length
  ·by_cases hjb : j < b.length
   ·have e1 : (j : Int) < (a.length : Int) := by omega
    have e2 : (j : Int) < (b.length : Int) := by omega
    simp only [spec_l3Ints_l0, spec_l3Ints_l0_b, e1, e2, decide_true, cond_true, inb_lt hj, inb_lt hjb, grd_true, at_lt hj, at_lt hjb, w64_succ (show j < 4611686018427387904 by omega)]
    rw [List.drop_eq_getElem_cons hj, List.drop_eq_getElem_cons hjb] at h3
    simp only [cmpInts] at h3
    by_cases hlt : a[j] < b[j]
    ·left; simp only [hlt, if_true, decide_true, cond_true] at h3 ⊢; rw [h3]
    ·by_cases hgt : a[j] > b[j]
     ·left; simp only [hlt, hgt, if_true, if_false, decide_true, decide_false, cond_true, cond_false] at h3 ⊢; rw [h3]
     ·right
      simp only [hlt, hgt, if_false, decide_false, cond_false] at h3 ⊢
      exact ⟨j + 1, ⟨by omega, by omega, h3⟩, by omega, rfl⟩
   ·left
    have e1 : (j : Int) < (a.length : Int) := by omega
    have e2 : ¬ (j : Int) < (b.length : Int) := by omega
    have e3 : ¬ (a.length : Int) < (b.length : Int) := by omega
    have e4 : (a.length : Int) > (b.length : Int) := by omega
    simp only [spec_l3Ints_l0, spec_l3Ints_l0_b, e1, e2, e3, e4, decide_true, decide_false, cond_true, cond_false]
    rw [List.drop_eq_getElem_cons hj, List.drop_of_length_le (l := b) (by omega)] at h3
    rw [← h3]; rfl
  ·left
   have hja : j = a.length := by omega
   have e1 : ¬ (j : Int) < (a.length : Int) := by omega
   simp only [spec_l3Ints_l0, spec_l3Ints_l0_b, e1, decide_false, cond_false]
   rw [List.drop_of_length_le (l := a) (by omega)] at h3
   by_cases hlt : a.length < b.length
   ·have e2 : (a.length : Int) < (b.length : Int) := by omega
    simp only [e2, decide_true, cond_true]
    rw [List.drop_eq_getElem_cons (by omega)] at h3
    rw [← h3]; rfl
   ·have e2 : ¬ (a.length : Int) < (b.length : Int) := by omega
    have e3 : ¬ (a.length : Int) > (b.length : Int) := by omega
    simp only [e2, e3, decide_false, cond_false]
    rw [List.drop_of_length_le (by omega)] at h3
    rw [← h3]; rfl) N 0 (by omega) ⟨by omega, by omega, rfl⟩
 exact this
theorem implInts {N : Nat} {a b : List Int} (ha : a.length ≤ 1048576) (hb : b.length ≤ 1048576) (hN : 1048576 < N) : slices_Compare_Lint_int N a b = some (cmpInts a b) := by
 have hc : ∀ x y : Int, cmp_Compare_int N x y = some (if x < y then -1 else if x > y then 1 else 0) := by
  intro x y
  simp only [cmp_Compare_int, cmp_isNaN_int, Option.bind_some, bneI, decide_true, Bool.not_true, cond_false]
  by_cases h1 : x < y
  ·simp [h1]
  ·by_cases h2 : x > y <;> simp [h1, h2]
 unfold slices_Compare_Lint_int slices_Compare_Lint_int_b
 have := loop (fun k (j : Nat) => slices_Compare_Lint_int_l0 N k a b a (a.length : Int) (j : Int)) (fun j => j ≤ a.length ∧ j ≤ b.length ∧ cmpInts (a.drop j) (b.drop j) = cmpInts a b) (fun j => a.length - j) (fun o => o = some (cmpInts a b)) (fun k j hs => by
  obtain ⟨h1, h2, h3⟩ := hs
  by_cases hj : j < a.length
  ·have e1 : (j : Int) < (a.length : Int) := by omega
   by_cases hjb : j < b.length
   ·have e2 : ¬ (j : Int) ≥ (b.length : Int) := by omega
    simp only [slices_Compare_Lint_int_l0, slices_Compare_Lint_int_l0_b, e1, e2, decide_true, decide_false, cond_true, cond_false, inb_lt hj, inb_lt hjb, grd_true, at_lt hj, at_lt hjb, w64_succ (show j < 4611686018427387904 by omega), hc, Option.bind_some]
    rw [List.drop_eq_getElem_cons hj, List.drop_eq_getElem_cons hjb] at h3
    simp only [cmpInts] at h3
    by_cases hlt : a[j] < b[j]
    ·left; simp only [hlt, if_true] at h3 ⊢; rw [← h3]; rfl
    ·by_cases hgt : a[j] > b[j]
     ·left; simp only [hlt, hgt, if_true, if_false] at h3 ⊢; rw [← h3]; rfl
     ·right
      simp only [hlt, hgt, if_false] at h3 ⊢
      exact ⟨j + 1, ⟨by omega, by omega, h3⟩, by omega, rfl⟩
   ·left
    have e2 : (j : Int) ≥ (b.length : Int) := by omega
    simp only [slices_Compare_Lint_int_l0, slices_Compare_Lint_int_l0_b, e1, e2, decide_true, cond_true, inb_lt hj, grd_true]
    rw [List.drop_eq_getElem_cons hj, List.drop_of_length_le (l := b) (by omega)] at h3
    rw [← h3]; rfl
  ·left
   have e1 : ¬ (j : Int) < (a.length : Int) := by omega
   simp only [slices_Compare_Lint_int_l0, slices_Compare_Lint_int_l0_b, e1, decide_false, cond_false]
   rw [List.drop_of_length_le (l := a) (by omega)] at h3
   by_cases hlt : a.length < b.length
   ·have e2 : (a.length : Int) < (b.length : Int) := by omega
    simp only [e2, decide_true, cond_true]
    rw [List.drop_eq_getElem_cons (by omega)] at h3
    rw [← h3]; rfl
   ·have e2 : ¬ (a.length : Int) < (b.length : Int) := by omega
    simp only [e2, decide_false, cond_false]
    rw [List.drop_of_length_le (by omega)] at h3
    rw [← h3]; rfl) N 0 (by omega) ⟨by omega, by omega, rfl⟩
 exact this
def cmpFacts (a b : Fact) : Int := if a.1 < b.1 then -1 else if a.1 > b.1 then 1 else cmpInts a.2 b.2
theorem specCmp {N : Nat} {a b : Fact} (ha : a.2.length ≤ 1048576) (hb : b.2.length ≤ 1048576) (hN : 1048576 < N) : spec_CompareFacts N a b = some (cmpFacts a b) := by
 unfold spec_CompareFacts cmpFacts
 rw [specInts ha hb hN]
 by_cases h1 : a.1 < b.1
 ·simp [h1]
 ·by_cases h2 : a.1 > b.1 <;> simp [h1, h2]
theorem implCmp {N : Nat} {a b : Fact} (ha : a.2.length ≤ 1048576) (hb : b.2.length ≤ 1048576) (hN : 1048576 < N) : impl_CompareFacts N a b = some (cmpFacts a b) := by
 unfold impl_CompareFacts cmpFacts impl_compare
 rw [implInts ha hb hN, bneI]
 by_cases h1 : a.1 < b.1
 ·have : ¬ a.1 = b.1 := by omega
  simp [h1, this]
 ·by_cases h2 : a.1 > b.1
  ·have : ¬ a.1 = b.1 := by omega
   simp [h1, h2, this]
  ·have : a.1 = b.1 := by omega
   simp [this]
theorem getD_any {α : Type} (d : α) {xs : List α} {p : α → Bool} : (∃ j, j < xs.length ∧ p (xs.getD j d) = true) ↔ xs.any p = true := by
 rw [List.any_eq_true]
 constructor
 ·rintro ⟨j, hj, h⟩
  rw [getD_lt hj] at h
  exact ⟨_, List.getElem_mem hj, h⟩
 ·rintro ⟨x, hx, h⟩
  obtain ⟨i, hi, rfl⟩ := List.mem_iff_getElem.1 hx
  exact ⟨i, hi, by rw [getD_lt hi]; exact h⟩
/-- 'Is there one of which it holds': the first index is not negative. -/
theorem contains_of {α : Type} {d : α} {xs : List α} {p : α → Bool} {g : Option Int} (h : (∃ j, j < xs.length ∧ p (xs.getD j d) = true ∧ (∀ i, i < j → p (xs.getD i d) = false) ∧ g = some (j : Int)) ∨ ((∀ i, i < xs.length → p (xs.getD i d) = false) ∧ g = some (-1))) : (g.bind fun r => some (decide (r ≥ 0))) = some (xs.any p) := by
 rcases h with ⟨j, h1, h2, _, rfl⟩ | ⟨h1, rfl⟩
 ·rw [(getD_any d).1 ⟨j, h1, h2⟩]
  simp
 ·have : xs.any p = false := by
   rw [Bool.eq_false_iff]
   intro h
   obtain ⟨j, hj, h2⟩ := (getD_any d).2 h
   rw [h1 j hj] at h2; simp at h2
  rw [this]; rfl

theorem areValues {N : Nat} {v : List Int} (hv : v.length ≤ 1048576) (hN : 1048576 < N) : impl_areValues N v = some (validVals v) := by
 unfold impl_areValues slices_ContainsFunc_Lint_int_areValues_c1 slices_IndexFunc_Lint_int_areValues_c1 slices_IndexFunc_Lint_int_areValues_c1_b
 rw [contains_of (d := (0 : Int)) (xs := v) (p := fun x => !decide (0 ≤ x ∧ x ≤ 9)) (first (n := v.length) (fun j => !decide (0 ≤ v.getD j 0 ∧ v.getD j 0 ≤ 9)) (fun k i => slices_IndexFunc_Lint_int_areValues_c1_l0 N k v (v.length : Int) i) (fun k => by simp [slices_IndexFunc_Lint_int_areValues_c1_l0, slices_IndexFunc_Lint_int_areValues_c1_l0_b]) (fun k j hj => ?_) (by omega))]
 ·simp only [Option.bind_some, validVals]
  rw [show (v.any fun x => !decide (0 ≤ x ∧ x ≤ 9)) = !(v.all fun x => decide (0 ≤ x ∧ x ≤ 9)) from (List.not_all_eq_any_not (l := v) (p := fun x => decide (0 ≤ x ∧ x ≤ 9))).symm, Bool.not_not]
 ·have h1 : (j : Int) < (v.length : Int) := by omega
  simp only [slices_IndexFunc_Lint_int_areValues_c1_l0, slices_IndexFunc_Lint_int_areValues_c1_l0_b, h1, decide_true, cond_true, inb_lt hj, grd_true, at_lt hj, impl_areValues_c1, within, Option.bind_some, getD_lt hj, w64_succ (show j < 4611686018427387904 by omega)]
  cases decide (0 ≤ v[j] ∧ v[j] ≤ 9) <;> rfl
theorem implFact1 {N : Nat} {l : List Rel} {f : Fact} (hl : l.length ≤ 1048576) (hf : f.2.length ≤ 1048576) (hN : 1048576 < N) : impl_isFact N l f = some (fact1 l f) := by
 obtain ⟨r, v⟩ := f
 simp only [impl_isFact, within, Option.bind_some, fact1]
 rw [w64_id (by omega) (by omega)]
 by_cases h : 0 ≤ r ∧ r ≤ (l.length : Int) - 1
 ·have h2 : r.toNat < l.length := by omega
  simp only [h, and_self, decide_true, cond_true, inb_int h.1 (show r < l.length by omega), grd_true, at_int h.1 (show r < l.length by omega), beqI, getD_lt h2, Bool.true_and]
  simp only at hf
  rw [areValues hf hN]
  cases decide ((v.length : Int) = l[r.toNat].2.1) <;> rfl
 ·simp only [h, decide_false, cond_false, Bool.false_and]

def factAt (d : Db) (j : Nat) : Fact := d.2.getD j (0, [])
def factsOk (d : Db) : Prop := ∀ j, j < d.2.length → (fact1 d.1 (factAt d j) && (decide (j = 0) || decide (cmpFacts (factAt d (j - 1)) (factAt d j) < 0))) = true
instance (d : Db) : Decidable (factsOk d) := by unfold factsOk; infer_instance
def validDb (d : Db) : Bool := validRels d.1 && (decide (d.2.length ≤ 14) && decide (factsOk d))
theorem specDb {N : Nat} {d : Db} (h : SmallDb d) (hN : 1048576 < N) : spec_IsValidDatabase N d = some (validDb d) := by
 have hv : ∀ j, j < d.2.length → (factAt d j).2.length ≤ 1048576 := fun j hj => by unfold factAt; rw [getD_lt hj]; exact h.vals _ (List.getElem_mem hj)
 unfold spec_IsValidDatabase spec_IsValidDatabase_b
 rw [everyE (n := d.2.length) (fun j => (validRels d.1 && fact1 d.1 (factAt d j)) && (decide (j = 0) || decide (cmpFacts (factAt d (j - 1)) (factAt d j) < 0))) (some false) (some (validRels d.1 && decide (d.2.length ≤ 14))) (fun k i => spec_IsValidDatabase_l0 N k d.1 d.2 i)
  (fun k => by
   simp only [spec_IsValidDatabase_l0, spec_IsValidDatabase_l0_b, Int.lt_irrefl, decide_false, cond_false, specRels h.rels hN, Option.bind_some]
   cases validRels d.1 with
   | false => rfl
   | true => simp only [cond_true, Bool.true_and, Option.some.injEq]; exact decide_eq_decide.2 (by omega)) (fun k j hj => ?_) (by have := h.facts; omega)]
 ·unfold validDb factsOk
  cases hr : validRels d.1 with
  | true =>
   simp only [Bool.true_and]
   by_cases h2 : ∀ j, j < d.2.length → (fact1 d.1 (factAt d j) && (decide (j = 0) || decide (cmpFacts (factAt d (j - 1)) (factAt d j) < 0))) = true
   ·rw [if_pos h2, decide_eq_true h2, Bool.and_true]
   ·rw [if_neg h2, decide_eq_false h2, Bool.and_false]
  | false => simp
 ·have h1 : (j : Int) < (d.2.length : Int) := by omega
  have hf := h.facts
  have ha : at_ (0, []) d.2 (j : Int) = factAt d j := by unfold factAt; rw [at_lt hj, getD_lt hj]
  simp only [spec_IsValidDatabase_l0, spec_IsValidDatabase_l0_b, h1, decide_true, cond_true, inb_lt hj, grd_true, ha, specFact h.rels (hv j hj) hN, Option.bind_some, w64_succ (show j < 4611686018427387904 by omega)]
  cases validRels d.1 && fact1 d.1 (factAt d j) with
  | false => rfl
  | true =>
   simp only [Bool.not_true, cond_false, Bool.true_and]
   by_cases h0 : j = 0
   ·subst h0; simp
   ·have h3 : (j : Int) > 0 := by omega
    have h4 : j - 1 < d.2.length := by omega
    have hb : at_ (0, []) d.2 ((j - 1 : Nat) : Int) = factAt d (j - 1) := by unfold factAt; rw [at_lt h4, getD_lt h4]
    simp only [h3, decide_true, cond_true, w64_pred (show 0 < j by omega) (by omega), inb_lt h4, grd_true, hb, specCmp (hv _ h4) (hv _ hj) hN, Option.bind_some, h0, decide_false, Bool.false_or]
    by_cases h5 : cmpFacts (factAt d (j - 1)) (factAt d j) < 0
    ·have : ¬ cmpFacts (factAt d (j - 1)) (factAt d j) ≥ 0 := by omega
     simp [h5, this]
    ·have : cmpFacts (factAt d (j - 1)) (factAt d j) ≥ 0 := by omega
     simp [h5, this]
theorem implDb {N : Nat} {d : Db} (h : SmallDb d) (hN : 1048576 < N) : impl_IsValidDatabase N d = some (validDb d) := by
 have hv : ∀ j, j < d.2.length → (factAt d j).2.length ≤ 1048576 := fun j hj => by unfold factAt; rw [getD_lt hj]; exact h.vals _ (List.getElem_mem hj)
 unfold impl_IsValidDatabase impl_IsValidDatabase_b
 rw [implRels h.rels hN, Option.bind_some]
 unfold validDb
 cases validRels d.1 with
 | false => rfl
 | true =>
  simp only [Bool.not_true, cond_false, Bool.true_and]
  by_cases h14 : d.2.length ≤ 14
  ·have : ¬ (d.2.length : Int) > 14 := by omega
   simp only [this, decide_false, cond_false, h14, decide_true, Bool.true_and]
   rw [everyE (n := d.2.length) (fun j => fact1 d.1 (factAt d j) && (decide (j = 0) || decide (cmpFacts (factAt d (j - 1)) (factAt d j) < 0))) (some false) (some true) (fun k i => impl_IsValidDatabase_l0 N k d.1 d.2 d.2 (d.2.length : Int) i)
    (fun k => by simp [impl_IsValidDatabase_l0, impl_IsValidDatabase_l0_b]) (fun k j hj => ?_) (by omega)]
   ·unfold factsOk
    by_cases h2 : ∀ j, j < d.2.length → (fact1 d.1 (factAt d j) && (decide (j = 0) || decide (cmpFacts (factAt d (j - 1)) (factAt d j) < 0))) = true
    ·rw [if_pos h2, decide_eq_true h2]
    ·rw [if_neg h2, decide_eq_false h2]
   ·have h1 : (j : Int) < (d.2.length : Int) := by omega
    have ha : at_ (0, []) d.2 (j : Int) = factAt d j := by unfold factAt; rw [at_lt hj, getD_lt hj]
    simp only [impl_IsValidDatabase_l0, impl_IsValidDatabase_l0_b, h1, decide_true, cond_true, inb_lt hj, grd_true, ha, implFact1 h.rels (hv j hj) hN, Option.bind_some, w64_succ (show j < 4611686018427387904 by omega)]
    cases fact1 d.1 (factAt d j) with
    | false => rfl
    | true =>
     simp only [Bool.not_true, cond_false, Bool.true_and]
     by_cases h0 : j = 0
     ·subst h0; simp
     ·have h3 : (j : Int) > 0 := by omega
      have h4 : j - 1 < d.2.length := by omega
      have hb : at_ (0, []) d.2 ((j - 1 : Nat) : Int) = factAt d (j - 1) := by unfold factAt; rw [at_lt h4, getD_lt h4]
      simp only [h3, decide_true, cond_true, w64_pred (show 0 < j by omega) (by omega), inb_lt h4, grd_true, hb, implCmp (hv _ h4) (hv _ hj) hN, Option.bind_some, h0, decide_false, Bool.false_or]
      by_cases h5 : cmpFacts (factAt d (j - 1)) (factAt d j) < 0
      ·have : ¬ cmpFacts (factAt d (j - 1)) (factAt d j) ≥ 0 := by omega
       simp [h5, this]
      ·have : cmpFacts (factAt d (j - 1)) (factAt d j) ≥ 0 := by omega
       simp [h5, this]
  ·have : (d.2.length : Int) > 14 := by omega
   simp [this, h14]
end Go.PL
namespace Go.PL
set_option linter.unusedVariables false
theorem cmpInts_trans : ∀ (a b c : List Int), cmpInts a b < 0 → cmpInts b c < 0 → cmpInts a c < 0
 | [], [], c, h, _ => by simp [cmpInts] at h
 | [], _ :: _, [], _, h => by simp [cmpInts] at h
 | [], _ :: _, _ :: _, _, _ => by simp [cmpInts]
 | _ :: _, [], c, h, _ => by simp [cmpInts] at h
 | _ :: _, _ :: _, [], _, h => by simp [cmpInts] at h
 | x :: a, y :: b, z :: c, h1, h2 => by
  simp only [cmpInts] at h1 h2 ⊢
  by_cases hxy : x < y
  ·by_cases hyz : y < z
   ·rw [if_pos (by omega)]; omega
   ·rw [if_neg hyz] at h2
    split at h2
    ·omega
    ·rw [if_pos (by omega)]; omega
  ·rw [if_neg hxy] at h1
   split at h1
   ·omega
   ·have : x = y := by omega
    subst this
    by_cases hyz : x < z
    ·rw [if_pos hyz]; omega
    ·rw [if_neg hyz] at h2 ⊢
     split at h2
     ·omega
     ·rename_i hg
      rw [if_neg hg]
      exact cmpInts_trans a b c h1 h2
theorem cmpFacts_trans {a b c : Fact} (h1 : cmpFacts a b < 0) (h2 : cmpFacts b c < 0) : cmpFacts a c < 0 := by
 unfold cmpFacts at h1 h2 ⊢
 by_cases hab : a.1 < b.1
 ·by_cases hbc : b.1 < c.1
  ·rw [if_pos (by omega)]; omega
  ·rw [if_neg hbc] at h2
   split at h2
   ·omega
   ·rw [if_pos (by omega)]; omega
 ·rw [if_neg hab] at h1
  split at h1
  ·omega
  ·by_cases hbc : b.1 < c.1
   ·rw [if_pos (by omega)]; omega
   ·rw [if_neg hbc] at h2
    split at h2
    ·omega
    ·rw [if_neg (by omega), if_neg (by omega)]
     exact cmpInts_trans _ _ _ h1 h2
/-- What lies between two that begin alike begins as they do. -/
theorem cmp_take : ∀ (n : Nat) (a b c : List Int), cmpInts a b < 0 → cmpInts b c < 0 → a.take n = c.take n → a.length = b.length → b.length = c.length → a.take n = b.take n
 | 0, _, _, _, _, _, _, _, _ => by simp
 | n + 1, [], [], _, h, _, _, _, _ => by simp [cmpInts] at h
 | n + 1, [], _ :: _, _, _, _, _, h, _ => by simp at h
 | n + 1, _ :: _, [], _, _, _, _, h, _ => by simp at h
 | n + 1, _ :: _, _ :: _, [], _, _, _, _, h => by simp at h
 | n + 1, x :: a, y :: b, z :: c, h1, h2, h3, h4, h5 => by
  simp only [List.take_succ_cons, List.cons.injEq] at h3 ⊢
  simp only [cmpInts] at h1 h2
  obtain ⟨rfl, h3⟩ := h3
  by_cases hxy : x < y
  ·rw [if_neg (by omega), if_pos (by omega)] at h2; omega
  ·rw [if_neg hxy] at h1
   split at h1
   ·omega
   ·have : x = y := by omega
    subst this
    rw [if_neg (by omega), if_neg (by omega)] at h2
    exact ⟨rfl, cmp_take n a b c h1 h2 h3 (by simpa using h4) (by simpa using h5)⟩

section
variable (S : Nat → Nat → Bool)
def blk (n s : Nat) : List Nat := (List.range n).filter (S s)
def isSt (s : Nat) : Bool := (List.range s).all fun k => !S s k
def sts (n : Nat) : List Nat := (List.range n).filter (isSt S)
def B (n : Nat) : List (List Nat) := (sts S n).map (blk S n)
structure Runs (n : Nat) : Prop where
 refl : ∀ i, S i i = true
 symm : ∀ i k, S i k = true → S k i = true
 trans : ∀ i j k, S i j = true → S j k = true → S i k = true
 run : ∀ i j k, i ≤ j → j ≤ k → k < n → S i k = true → S i j = true
variable {S}
theorem isSt_iff {s : Nat} : isSt S s = true ↔ ∀ k, k < s → S s k = false := by
 unfold isSt
 rw [List.all_eq_true]
 constructor
 ·intro h k hk
  have := h k (List.mem_range.2 hk)
  simpa using this
 ·intro h k hk
  rw [h k (List.mem_range.1 hk)]; rfl
theorem sts_succ (n : Nat) : sts S (n + 1) = sts S n ++ (if isSt S n = true then [n] else []) := by
 unfold sts
 rw [List.range_succ, List.filter_append]
 congr 1
 by_cases h : isSt S n = true <;> simp [h]
theorem blk_succ (n s : Nat) : blk S (n + 1) s = blk S n s ++ (if S s n = true then [n] else []) := by
 unfold blk
 rw [List.range_succ, List.filter_append]
 congr 1
 by_cases h : S s n = true <;> simp [h]
theorem mem_sts {n s : Nat} : s ∈ sts S n ↔ s < n ∧ isSt S s = true := by
 unfold sts; rw [List.mem_filter, List.mem_range]
theorem blk_start {n : Nat} (h : isSt S n = true) : blk S n n = [] := by
 unfold blk
 rw [List.filter_eq_nil_iff]
 intro k hk
 rw [isSt_iff.1 h k (List.mem_range.1 hk)]; simp
theorem B_new {N n : Nat} (hS : Runs S N) (h : isSt S n = true) : B S (n + 1) = B S n ++ [[n]] := by
 unfold B
 rw [sts_succ, if_pos h, List.map_append]
 congr 1
 ·apply List.map_congr_left
  intro s hs
  obtain ⟨h1, h2⟩ := mem_sts.1 hs
  rw [blk_succ, if_neg, List.append_nil]
  intro hc
  have := hS.symm _ _ hc
  rw [isSt_iff.1 h s h1] at this
  simp at this
 ·simp only [List.map_cons, List.map_nil]
  rw [blk_succ, blk_start h, if_pos (hS.refl n)]; rfl
theorem last_start {N : Nat} (hS : Runs S N) : ∀ n, 0 < n → n ≤ N → ∃ A t, sts S n = A ++ [t] ∧ t < n ∧ isSt S t = true ∧ ∀ k, t ≤ k → k < n → S t k = true
 | 0, h, _ => by omega
 | n + 1, _, hN => by
  by_cases h : isSt S n = true
  ·refine ⟨sts S n, n, by rw [sts_succ, if_pos h], by omega, h, fun k h1 h2 => ?_⟩
   have : k = n := by omega
   subst this
   exact hS.refl _
  ·have hn : 0 < n := by
    apply Decidable.byContradiction
    intro h0
    have : n = 0 := by omega
    subst this
    apply h
    rw [isSt_iff]; intro k hk; omega
   obtain ⟨A, t, e, h1, h2, h3⟩ := last_start hS n hn (by omega)
   refine ⟨A, t, by rw [sts_succ, if_neg h, List.append_nil]; exact e, by omega, h2, fun k k1 k2 => ?_⟩
   by_cases hk : k < n
   ·exact h3 k k1 hk
   ·have : k = n := by omega
    subst this
    obtain ⟨q, q1, q2⟩ : ∃ q, q < k ∧ S k q = true := by
     apply Decidable.byContradiction
     intro hc
     apply h
     rw [isSt_iff]
     intro q hq
     rw [Bool.eq_false_iff]
     exact fun hs => hc ⟨q, hq, hs⟩
    have q3 := hS.symm _ _ q2
    have q4 := hS.run q (k - 1) k (by omega) (by omega) (by omega) q3
    exact hS.trans _ _ _ (h3 (k - 1) (by omega) (by omega)) (hS.trans _ _ _ (hS.symm _ _ q4) q3)
theorem B_old {N n : Nat} (hS : Runs S N) (h : ¬ isSt S n = true) (hn : n < N) {A : List Nat} {t : Nat} (e : sts S n = A ++ [t]) (ht : S t n = true) : B S (n + 1) = A.map (blk S n) ++ [blk S n t ++ [n]] := by
 unfold B
 rw [sts_succ, if_neg h, List.append_nil, e, List.map_append]
 congr 1
 ·apply List.map_congr_left
  intro s hs
  rw [blk_succ, if_neg, List.append_nil]
  intro hc
  have hst := hS.trans _ _ _ hc (hS.symm _ _ ht)
  have m1 := mem_sts.1 (show s ∈ sts S n by rw [e]; simp [hs])
  have m2 := mem_sts.1 (show t ∈ sts S n by rw [e]; simp)
  have hne : s ≠ t := by
   have hnd : (sts S n).Nodup := List.nodup_range.sublist List.filter_sublist
   rw [e] at hnd
   exact fun h => (List.nodup_append.1 hnd).2.2 s hs t (by simp) h
  by_cases hlt : s < t
  ·have := isSt_iff.1 m2.2 s hlt
   rw [hS.symm _ _ hst] at this; simp at this
  ·have := isSt_iff.1 m1.2 t (by omega)
   rw [hst] at this; simp at this
 ·simp only [List.map_cons, List.map_nil]
  rw [blk_succ, if_pos ht]
theorem blk_head {n s : Nat} (hr : S s s = true) (hs : s < n) : ∃ h r, blk S n s = h :: r ∧ S s h = true ∧ (h = s ↔ isSt S s = true) := by
 have hm : s ∈ blk S n s := List.mem_filter.2 ⟨List.mem_range.2 hs, hr⟩
 cases hb : blk S n s with
 | nil => rw [hb] at hm; simp at hm
 | cons h r =>
  have hh : (blk S n s).head? = some h := by rw [hb]; rfl
  unfold blk at hh
  rw [List.head?_filter, List.find?_range_eq_some] at hh
  obtain ⟨h1, h2, h3⟩ := hh
  refine ⟨h, r, rfl, h1, ?_⟩
  constructor
  ·intro e
   subst e
   rw [isSt_iff]
   intro k hk
   have := h3 k hk
   simpa using this
  ·intro hst
   have h4 : ¬ h < s := fun hlt => by
    rw [isSt_iff.1 hst h hlt] at h1; simp at h1
   have h5 : ¬ s < h := fun hlt => by
    have := h3 s hlt
    rw [hr] at this; simp at this
   omega
theorem B_length {N : Nat} (hS : Runs S N) : ∀ n, n ≤ N → ((B S n).map List.length).sum = n
 | 0, _ => by simp [B, sts]
 | n + 1, hn => by
  by_cases h : isSt S n = true
  ·rw [B_new hS h, List.map_append, List.sum_append, B_length hS n (by omega)]; simp
  ·have hn0 : 0 < n := by
    apply Decidable.byContradiction
    intro h0
    have : n = 0 := by omega
    subst this
    apply h
    rw [isSt_iff]; intro k hk; omega
   obtain ⟨A, t, e, h1, h2, h3⟩ := last_start hS (n + 1) (by omega) hn
   have e' : sts S n = A ++ [t] := by rw [sts_succ, if_neg h, List.append_nil] at e; exact e
   have ih := B_length hS n (by omega)
   rw [B_old hS h (by omega) e' (h3 n (by omega) (by omega))]
   unfold B at ih
   rw [e'] at ih
   simp only [List.map_append, List.sum_append, List.map_cons, List.map_nil, List.sum_cons, List.sum_nil, List.length_append, List.length_singleton] at ih ⊢
   omega
end
end Go.PL
namespace Go.PL
set_option linter.unusedVariables false
def keyLen (l : List Rel) (f : Fact) : Int := (l.getD f.1.toNat (⟨#[]⟩, 0, 0)).2.2
def keyOf (l : List Rel) (f : Fact) : List Int := f.2.take (keyLen l f).toNat
def sameK (l : List Rel) (a b : Fact) : Bool := decide (a.1 = b.1) && decide (keyOf l a = keyOf l b)

theorem validRel_key {r : Rel} (h : validRel r = true) : 0 ≤ r.2.2 ∧ r.2.2 ≤ r.2.1 := by
 unfold validRel spec_IsValidRelation at h
 by_cases h1 : r.1.size = 1
 ·have hb : ∃ b, byteAt r.1 0 = some b := by
   unfold byteAt
   have : (0 : Int).toNat < r.1.size := by omega
   exact ⟨r.1[(0 : Int).toNat], by rw [if_pos (by omega), getElem?_pos]⟩
  obtain ⟨b, hb⟩ := hb
  rw [hb] at h
  simp only [Option.bind_some, l1In] at h
  by_cases h2 : 0 ≤ r.2.2 ∧ r.2.2 ≤ r.2.1
  ·exact h2
  ·rw [decide_eq_false h2] at h
   exfalso
   revert h
   cases ((r.1.size : Int) == 1) <;> cases decide ((b.toNat : Int) ≥ 97) <;> cases decide ((b.toNat : Int) ≤ 122) <;> cases decide (1 ≤ r.2.1 ∧ r.2.1 ≤ 3) <;> simp
 ·have h0 : ((r.1.size : Int) == 1) = false := by rw [beqI]; simp; omega
  rw [h0] at h
  simp at h
theorem validRels_at {l : List Rel} (h : validRels l = true) {j : Nat} (hj : j < l.length) : validRel (l.getD j (⟨#[]⟩, 0, 0)) = true := by
 have := (of_decide_eq_true h).1 j hj
 rw [Bool.and_eq_true] at this
 exact this.1
structure GoodFact (l : List Rel) (f : Fact) : Prop where
 lo : 0 ≤ f.1
 hi : f.1 < (l.length : Int)
 len : (f.2.length : Int) = (l.getD f.1.toNat (⟨#[]⟩, 0, 0)).2.1
 k0 : 0 ≤ keyLen l f
 k1 : keyLen l f ≤ (f.2.length : Int)
theorem goodFact {l : List Rel} {f : Fact} (hl : validRels l = true) (hf : fact1 l f = true) : GoodFact l f := by
 unfold fact1 at hf
 rw [Bool.and_eq_true, Bool.and_eq_true, decide_eq_true_eq, decide_eq_true_eq] at hf
 obtain ⟨⟨h1, h2⟩, h3, h4⟩ := hf
 have := validRel_key (validRels_at hl (j := f.1.toNat) (by omega))
 exact ⟨h1, by omega, h3, this.1, by rw [h3]; exact this.2⟩

theorem implEqual {N : Nat} {a b : List Int} (ha : a.length ≤ 1048576) (hN : 1048576 < N) : slices_Equal_Lint_int N a b = some (decide (a = b)) := by
 unfold slices_Equal_Lint_int slices_Equal_Lint_int_b
 by_cases hl : a.length = b.length
 ·have : ((a.length : Int) != (b.length : Int)) = false := by rw [bneI]; simp; omega
  rw [this, cond_false, every (n := a.length) (fun j => decide (a[j]? = b[j]?)) (fun k i => slices_Equal_Lint_int_l0 N k a b (a.length : Int) i) (fun k => by simp [slices_Equal_Lint_int_l0, slices_Equal_Lint_int_l0_b]) (fun k j hj => ?_) (by omega)]
  ·congr 1
   exact decide_eq_decide.2 (list_eq_iff hl).symm
  ·have h1 : (j : Int) < (a.length : Int) := by omega
   have hjb : j < b.length := by omega
   simp only [slices_Equal_Lint_int_l0, slices_Equal_Lint_int_l0_b, h1, decide_true, cond_true, inb_lt hj, inb_lt hjb, grd_true, at_lt hj, at_lt hjb, w64_succ (show j < 4611686018427387904 by omega), bneI, List.getElem?_eq_getElem hj, List.getElem?_eq_getElem hjb, Option.some.injEq]
   by_cases h : a[j] = b[j] <;> simp [h]
 ·have : ((a.length : Int) != (b.length : Int)) = true := by rw [bneI]; simp; omega
  have hne : ¬ a = b := fun h => hl (by rw [h])
  rw [this, cond_true, decide_eq_false hne]

theorem subOk_true {lo hi : Int} {n : Nat} (h1 : 0 ≤ lo) (h2 : lo ≤ hi) (h3 : hi ≤ (n : Int)) : subOk lo hi n = true := by
 unfold subOk; rw [decide_eq_true h1, decide_eq_true h2, decide_eq_true h3]; rfl
theorem appOk_lt {α : Type} {s x : List α} {b : Nat} (hb : b ≤ 1000) (h : s.length + x.length ≤ 140737488355) : appOk s x b = true := by
 unfold appOk
 refine decide_eq_true ?_
 calc (s.length + x.length) * b ≤ 140737488355 * 1000 := Nat.mul_le_mul h hb
  _ ≤ _ := by omega
theorem specKey {N : Nat} {l : List Rel} {f : Fact} (hl : l.length ≤ 1048576) (hf : f.2.length ≤ 1048576) (hN : 1048576 < N) (hv : validRels l = true) (h1 : fact1 l f = true) : spec_KeyOf N l f = some (keyOf l f) := by
 have g := goodFact hv h1
 have e : (at_ (⟨#[]⟩, 0, 0) l f.1).2.2 = keyLen l f := rfl
 unfold spec_KeyOf
 rw [specFact hl hf hN, hv, h1, Option.bind_some, inb_int g.lo g.hi, grd_true]
 simp only [Bool.and_self, Bool.not_true, cond_false, e]
 rw [subOk_true (by omega) g.k0 g.k1, grd_true, appOk_lt (by omega) (by simp only [List.length_nil, List.length_take]; omega), grd_true]
 rfl
theorem specSame {N : Nat} {l : List Rel} {a b : Fact} (hl : l.length ≤ 1048576) (ha : a.2.length ≤ 1048576) (hb : b.2.length ≤ 1048576) (hN : 1048576 < N) (hv : validRels l = true) (h1 : fact1 l a = true) (h2 : fact1 l b = true) : spec_HaveSameKey N l a b = some (sameK l a b) := by
 unfold spec_HaveSameKey sameK
 rw [specFact hl ha hN, specFact hl hb hN, hv, h1, h2]
 simp only [Bool.and_self, Option.bind_some, cond_true, beqI]
 by_cases h : a.1 = b.1
 ·rw [decide_eq_true h, cond_true, specKey hl ha hN hv h1, specKey hl hb hN hv h2, Option.bind_some, Option.bind_some,
   specInts (by unfold keyOf; rw [List.length_take]; omega) (by unfold keyOf; rw [List.length_take]; omega) hN, Option.bind_some, Bool.true_and]
  congr 1
  exact decide_eq_decide.2 (cmpInts_eq _ _)
 ·rw [decide_eq_false h]; rfl
theorem implSame {N : Nat} {l : List Rel} {a b : Fact} (ha : a.2.length ≤ 1048576) (hb : b.2.length ≤ 1048576) (hN : 1048576 < N) (hv : validRels l = true) (h1 : fact1 l a = true) (h2 : fact1 l b = true) : impl_sameKey N l a b = some (sameK l a b) := by
 have g := goodFact hv h1
 have g' := goodFact hv h2
 have e : (at_ (⟨#[]⟩, 0, 0) l a.1).2.2 = keyLen l a := rfl
 unfold impl_sameKey sameK
 rw [bneI]
 by_cases h : a.1 = b.1
 ·have hk : keyLen l a = keyLen l b := by unfold keyLen; rw [h]
  rw [decide_eq_true h, Bool.not_true, cond_false, inb_int g.lo g.hi, grd_true, e]
  rw [subOk_true (by omega) g.k0 g.k1, grd_true, subOk_true (by omega) g.k0 (by have := g'.k1; rw [← hk] at this; exact this), grd_true, implEqual (by rw [List.length_take]; omega) hN, Option.bind_some, Bool.true_and]
  unfold keyOf
  rw [← hk]
 ·rw [decide_eq_false h]; rfl

def sameD (d : Db) (i k : Nat) : Bool := sameK d.1 (factAt d i) (factAt d k)
structure ValidDb (d : Db) : Prop where
 rels : validRels d.1 = true
 few : d.2.length ≤ 14
 fact : ∀ j, j < d.2.length → fact1 d.1 (factAt d j) = true
 lt : ∀ i k, i < k → k < d.2.length → cmpFacts (factAt d i) (factAt d k) < 0
theorem validDb_of {d : Db} (h : validDb d = true) : ValidDb d := by
 unfold validDb at h
 rw [Bool.and_eq_true, Bool.and_eq_true, decide_eq_true_eq, decide_eq_true_eq] at h
 obtain ⟨h1, h2, h3⟩ := h
 refine ⟨h1, h2, fun j hj => ?_, ?_⟩
 ·have := h3 j hj
  rw [Bool.and_eq_true] at this
  exact this.1
 ·have step : ∀ j, 0 < j → j < d.2.length → cmpFacts (factAt d (j - 1)) (factAt d j) < 0 := by
   intro j h0 hj
   have := h3 j hj
   rw [Bool.and_eq_true, Bool.or_eq_true, decide_eq_true_eq, decide_eq_true_eq] at this
   rcases this.2 with h | h
   ·omega
   ·exact h
  intro i k
  induction k with
  | zero => intro h; omega
  | succ k ih =>
   intro hik hk
   have hs := step (k + 1) (by omega) hk
   rw [Nat.add_sub_cancel] at hs
   by_cases h : i = k
   ·subst h; exact hs
   ·exact cmpFacts_trans (ih (by omega) (by omega)) hs
theorem runs {d : Db} (h : ValidDb d) : Runs (sameD d) d.2.length := by
 refine ⟨fun i => by simp [sameD, sameK], fun i k hs => ?_, fun i j k h1 h2 => ?_, fun i j k hij hjk hk hs => ?_⟩
 ·simp only [sameD, sameK, Bool.and_eq_true, decide_eq_true_eq] at hs ⊢
  exact ⟨hs.1.symm, hs.2.symm⟩
 ·simp only [sameD, sameK, Bool.and_eq_true, decide_eq_true_eq] at h1 h2 ⊢
  exact ⟨h1.1.trans h2.1, h1.2.trans h2.2⟩
 ·by_cases e1 : i = j
  ·subst e1; simp [sameD, sameK]
  ·by_cases e2 : j = k
   ·subst e2; exact hs
   ·have l1 := h.lt i j (by omega) (by omega)
    have l2 := h.lt j k (by omega) hk
    have g1 := goodFact h.rels (h.fact i (by omega))
    have g2 := goodFact h.rels (h.fact j (by omega))
    have g3 := goodFact h.rels (h.fact k hk)
    simp only [sameD, sameK, Bool.and_eq_true, decide_eq_true_eq] at hs ⊢
    obtain ⟨s1, s2⟩ := hs
    generalize factAt d i = a at *
    generalize factAt d j = b at *
    generalize factAt d k = c at *
    have hab : a.1 = b.1 := by
     unfold cmpFacts at l1 l2
     by_cases q1 : a.1 < b.1
     ·have : b.1 > c.1 := by omega
      rw [if_neg (by omega), if_pos this] at l2; omega
     ·rw [if_neg q1] at l1
      split at l1
      ·omega
      ·omega
    have hbc : b.1 = c.1 := by omega
    have c1 : cmpInts a.2 b.2 < 0 := by unfold cmpFacts at l1; rw [if_neg (by omega), if_neg (by omega)] at l1; exact l1
    have c2 : cmpInts b.2 c.2 < 0 := by unfold cmpFacts at l2; rw [if_neg (by omega), if_neg (by omega)] at l2; exact l2
    have k1 : keyLen d.1 a = keyLen d.1 b := by unfold keyLen; rw [hab]
    have k2 : keyLen d.1 b = keyLen d.1 c := by unfold keyLen; rw [hbc]
    have n1 := g1.len
    have n2 := g2.len
    have n3 := g3.len
    rw [hab] at n1
    rw [hbc] at n1 n2
    unfold keyOf at s2 ⊢
    rw [← k2, ← k1] at s2
    rw [← k1]
    exact ⟨hab, cmp_take _ _ _ _ c1 c2 s2 (by omega) (by omega)⟩
end Go.PL
namespace Go.PL
set_option linter.unusedVariables false
/-- Two rows in strict order with the same members are one. -/
theorem sorted_ext : ∀ {a b : List Int}, a.Pairwise (· < ·) → b.Pairwise (· < ·) → (∀ x, x ∈ a ↔ x ∈ b) → a = b
 | [], [], _, _, _ => rfl
 | [], y :: b, _, _, h => by have := (h y).2 (by simp); simp at this
 | x :: a, [], _, _, h => by have := (h x).1 (by simp); simp at this
 | x :: a, y :: b, ha, hb, h => by
  rw [List.pairwise_cons] at ha hb
  have e : x = y := by
   have h1 := (h x).1 (by simp)
   have h2 := (h y).2 (by simp)
   rcases List.mem_cons.1 h1 with h1 | h1
   ·exact h1
   ·rcases List.mem_cons.1 h2 with h2 | h2
    ·exact h2.symm
    ·have := ha.1 y h2
     have := hb.1 x h1
     omega
  subst e
  rw [sorted_ext ha.2 hb.2 fun z => ?_]
  have hz := h z
  simp only [List.mem_cons] at hz
  constructor
  ·intro hm
   have := ha.1 z hm
   rcases hz.1 (.inr hm) with h3 | h3
   ·omega
   ·exact h3
  ·intro hm
   have := hb.1 z hm
   rcases hz.2 (.inr hm) with h3 | h3
   ·omega
   ·exact h3
/-- One of each run. -/
def uniq (s : List Int) : List Int := ((List.range s.length).filter fun j => decide (j = 0 ∨ s.toArray[j]! ≠ s.toArray[j - 1]!)).map fun j => s.toArray[j]!
theorem arr_at {s : List Int} {j : Nat} (h : j < s.length) : s.toArray[j]! = s[j] := by
 rw [getElem!_pos s.toArray j (by simpa using h)]; simp
theorem uniq_sorted {s : List Int} (h : s.Pairwise (· ≤ ·)) : (uniq s).Pairwise (· < ·) := by
 unfold uniq
 rw [List.pairwise_map]
 refine (List.Pairwise.filter _ List.pairwise_lt_range).imp_of_mem fun {i j} hi hj hlt => ?_
 obtain ⟨hj1, hj2⟩ := List.mem_filter.1 hj
 have hj1 := List.mem_range.1 hj1
 rw [decide_eq_true_eq, arr_at hj1, arr_at (show j - 1 < s.length by omega)] at hj2
 rw [arr_at (show i < s.length by omega), arr_at hj1]
 have h1 := List.pairwise_iff_getElem.1 h (j - 1) j (by omega) hj1 (by omega)
 have h2 : s[i] ≤ s[j - 1] := by
  by_cases e : i = j - 1
  ·subst e; exact Int.le_refl _
  ·exact List.pairwise_iff_getElem.1 h i (j - 1) (by omega) (by omega) (by omega)
 rcases hj2 with hj2 | hj2 <;> omega
theorem uniq_mem {s : List Int} (x : Int) : x ∈ uniq s ↔ x ∈ s := by
 unfold uniq
 rw [List.mem_map]
 constructor
 ·rintro ⟨j, hj, rfl⟩
  have := List.mem_range.1 (List.mem_filter.1 hj).1
  rw [arr_at this]
  exact List.getElem_mem this
 ·intro hx
  obtain ⟨j, hj, rfl⟩ := List.mem_iff_getElem.1 hx
  have key : ∀ j (hj : j < s.length), ∃ i, i ∈ ((List.range s.length).filter fun j => decide (j = 0 ∨ s.toArray[j]! ≠ s.toArray[j - 1]!)) ∧ s.toArray[i]! = s[j] := by
   intro j
   induction j with
   | zero => intro hj; exact ⟨0, List.mem_filter.2 ⟨List.mem_range.2 hj, by simp⟩, arr_at hj⟩
   | succ j ih =>
    intro hj
    by_cases e : s[j + 1] = s[j]
    ·obtain ⟨i, h1, h2⟩ := ih (by omega)
     exact ⟨i, h1, by rw [h2, e]⟩
    ·refine ⟨j + 1, List.mem_filter.2 ⟨List.mem_range.2 hj, ?_⟩, arr_at hj⟩
     rw [decide_eq_true_eq, arr_at hj, Nat.add_sub_cancel, arr_at (show j < s.length by omega)]
     exact .inr e
  exact key j hj
/-- In order, each once. -/
def setOf (s : List Int) : List Int := uniq (s.mergeSort fun a b => decide (a ≤ b))
theorem setOf_sorted (s : List Int) : (setOf s).Pairwise (· < ·) := by
 refine uniq_sorted ?_
 have := List.pairwise_mergeSort (le := fun a b : Int => decide (a ≤ b)) (fun a b c h1 h2 => by simp only [decide_eq_true_eq] at *; omega) (fun a b => by simp only [Bool.or_eq_true, decide_eq_true_eq]; omega) s
 exact this.imp fun h => by simpa using h
theorem setOf_mem {s : List Int} (x : Int) : x ∈ setOf s ↔ x ∈ s := by unfold setOf; rw [uniq_mem, List.mem_mergeSort]
theorem setOf_len (s : List Int) : (setOf s).length ≤ s.length := by
 unfold setOf uniq
 rw [List.length_map, List.length_mergeSort]
 have := List.length_filter_le (fun j => decide (j = 0 ∨ (s.mergeSort fun a b => decide (a ≤ b)).toArray[j]! ≠ (s.mergeSort fun a b => decide (a ≤ b)).toArray[j - 1]!)) (List.range (s.mergeSort fun a b => decide (a ≤ b)).length)
 rwa [List.length_range, List.length_mergeSort] at this
theorem concatV {N : Nat} {L : List (List Int)} (hl : L.length ≤ 1000) (hs : (L.map List.length).sum ≤ 1000000) (hN : 1048576 < N) : slices_Concat_Lint_int N L = some L.flatten := by
 unfold slices_Concat_Lint_int slices_Concat_Lint_int_b
 have sum_take : ∀ (L : List (List Int)) (j : Nat), ((L.take j).map List.length).sum ≤ (L.map List.length).sum := by
  intro L
  induction L with
  | nil => intro j; simp
  | cons b L ih =>
   intro j
   cases j with
   | zero => simp
   | succ j => have := ih j; simp only [List.take_succ_cons, List.map_cons, List.sum_cons]; omega
 have flat_len : ∀ L : List (List Int), L.flatten.length = (L.map List.length).sum := fun L => List.length_flatten
 have inner : slices_Concat_Lint_int_l1 N N [] L (L.length : Int) 0 = some L.flatten := by
  have := loop (fun k (s : Nat) => slices_Concat_Lint_int_l1 N k (L.take s).flatten L (L.length : Int) (s : Int)) (fun s => s ≤ L.length) (fun s => L.length - s) (fun o => o = some L.flatten) (fun k j hj' => by
   simp only [slices_Concat_Lint_int_l1, slices_Concat_Lint_int_l1_b]
   by_cases hj : j < L.length
   ·right
    refine ⟨j + 1, hj, by omega, ?_⟩
    have h1 : (j : Int) < (L.length : Int) := by omega
    have t := sum_take L (j + 1)
    rw [List.take_succ_eq_append_getElem hj, List.map_append, List.sum_append] at t
    simp only [List.map_cons, List.map_nil, List.sum_cons, List.sum_nil] at t
    simp only [h1, decide_true, cond_true, inb_lt hj, grd_true, at_lt hj]
    rw [appOk_lt (by omega) (by rw [flat_len]; omega), grd_true, w64_succ (by omega), List.take_succ_eq_append_getElem hj, List.flatten_append]
    simp only [List.flatten_cons, List.flatten_nil, List.append_nil]
   ·left
    have h1 : ¬ (j : Int) < (L.length : Int) := by omega
    simp only [h1, decide_false, cond_false]
    rw [List.take_of_length_le (by omega)]) N 0 (by omega) (by omega)
  exact this
 have := loop (fun k (s : Nat) => slices_Concat_Lint_int_l0 N k L (((L.take s).map List.length).sum : Int) L (L.length : Int) (s : Int)) (fun s => s ≤ L.length) (fun s => L.length - s) (fun o => o = some L.flatten) (fun k j hj' => by
  simp only [slices_Concat_Lint_int_l0, slices_Concat_Lint_int_l0_b]
  by_cases hj : j < L.length
  ·right
   refine ⟨j + 1, hj, by omega, ?_⟩
   have h1 : (j : Int) < (L.length : Int) := by omega
   have t := sum_take L (j + 1)
   have e : ((L.take (j + 1)).map List.length).sum = ((L.take j).map List.length).sum + (L[j]).length := by
    rw [List.take_succ_eq_append_getElem hj, List.map_append, List.sum_append]
    simp
   have ew : w64 ((((L.take j).map List.length).sum : Int) + ((L[j]).length : Int)) = (((L.take (j + 1)).map List.length).sum : Int) := by
    rw [e, w64_id (by omega) (by omega)]
    omega
   have h2 : ¬ ((((L.take (j + 1)).map List.length).sum : Nat) : Int) < 0 := by omega
   simp only [h1, decide_true, cond_true, inb_lt hj, grd_true, at_lt hj, ew, decide_eq_false h2, cond_false, w64_succ (show j < 4611686018427387904 by omega)]
  ·left
   have h1 : ¬ (j : Int) < (L.length : Int) := by omega
   have e : L.take j = L := List.take_of_length_le (by omega)
   have g : (decide ((0 : Int) ≤ ((L.map List.length).sum : Int)) && decide ((([] : List Int).length + (((L.map List.length).sum : Nat) : Int).toNat) * 8 ≤ 140737488355328)) = true := by
    rw [Bool.and_eq_true, decide_eq_true_eq, decide_eq_true_eq, Int.toNat_natCast]
    simp only [List.length_nil]
    omega
   simp only [h1, decide_false, cond_false, e, slices_Grow_Lint_int, g, grd_true, Option.bind_some, inner]) N 0 (by omega) (by omega)
 exact this
theorem unionV {N : Nat} {a b : List Int} (ha : a.length ≤ 100000) (hb : b.length ≤ 100000) (hN : 1048576 < N) : impl_union N a b = some (setOf (a ++ b)) := by
 unfold impl_union
 rw [concatV (by simp) (by simp; omega) hN, Option.bind_some]
 unfold slices_Sort_Lint_int slices_Compact_Lint_int
 have e : [a, b].flatten = a ++ b := by simp
 rw [e, decide_eq_true (by rw [List.length_append]; omega), grd_true]
 rfl
end Go.PL
namespace Go.PL
set_option linter.unusedVariables false
def toI (l : List Nat) : List Int := l.map fun (n : Nat) => (n : Int)
theorem toI_length (l : List Nat) : (toI l).length = l.length := by simp [toI]
theorem toI_append (a b : List Nat) : toI (a ++ b) = toI a ++ toI b := by simp [toI]
theorem blk_length (S : Nat → Nat → Bool) (n s : Nat) : (blk S n s).length ≤ n := by
 unfold blk
 exact Nat.le_trans (List.length_filter_le _ _) (Nat.le_of_eq List.length_range)
theorem sts_length (S : Nat → Nat → Bool) (n : Nat) : (sts S n).length ≤ n := by
 unfold sts
 exact Nat.le_trans (List.length_filter_le _ _) (Nat.le_of_eq List.length_range)
theorem B_len (S : Nat → Nat → Bool) (n : Nat) : (B S n).length ≤ n := by
 unfold B; rw [List.length_map]; exact sts_length S n
theorem fact_at {d : Db} {k : Nat} (hk : k < d.2.length) : at_ (0, []) d.2 (k : Int) = factAt d k := by unfold factAt; rw [at_lt hk, getD_lt hk]
theorem fact_small {d : Db} (h : SmallDb d) {k : Nat} (hk : k < d.2.length) : (factAt d k).2.length ≤ 1048576 := by unfold factAt; rw [getD_lt hk]; exact h.vals _ (List.getElem_mem hk)

theorem specBlockOf {N : Nat} {d : Db} (h : SmallDb d) (hvb : validDb d = true) (hN : 1048576 < N) {i : Nat} (hi : i < d.2.length) : spec_BlockOf N d (i : Int) = some (toI (blk (sameD d) d.2.length i)) := by
 have hv := validDb_of hvb
 have hf := hv.few
 unfold spec_BlockOf spec_BlockOf_b
 have := loop (fun k (s : List Int × Nat) => spec_BlockOf_l0 N k (i : Int) d.1 d.2 s.1 (s.2 : Int)) (fun s => s.2 ≤ d.2.length ∧ s.1 = toI (blk (sameD d) s.2 i)) (fun s => d.2.length - s.2) (fun o => o = some (toI (blk (sameD d) d.2.length i))) (fun k s hs => by
  obtain ⟨out, j⟩ := s
  obtain ⟨h1, h2⟩ := hs
  simp only at h1 h2 ⊢
  by_cases hj : j < d.2.length
  ·right
   have e1 : (j : Int) < (d.2.length : Int) := by omega
   have e2 : (0 : Int) ≤ (i : Int) ∧ (i : Int) ≤ (d.2.length : Int) - 1 := by omega
   have e3 : validDb (d.1, d.2) = true := hvb
   have hlen : out.length ≤ 14 := by rw [h2, toI_length]; have := blk_length (sameD d) j i; omega
   refine ⟨(toI (blk (sameD d) (j + 1) i), j + 1), ⟨hj, rfl⟩, by simp only; omega, ?_⟩
   simp only [spec_BlockOf_l0, spec_BlockOf_l0_b, e1, decide_true, cond_true, specDb (d := (d.1, d.2)) h hN, e3, Option.bind_some, l1In, w64_id (show -9223372036854775808 ≤ (d.2.length : Int) - 1 by omega) (by omega), e2, and_self, inb_lt hi, inb_lt hj, grd_true, fact_at hi, fact_at hj,
    specSame h.rels (fact_small h hi) (fact_small h hj) hN hv.rels (hv.fact i hi) (hv.fact j hj), w64_succ (show j < 4611686018427387904 by omega)]
   rw [blk_succ]
   cases hs : sameD d i j with
   | true =>
    have hs' : sameK d.1 (factAt d i) (factAt d j) = true := hs
    rw [hs', cond_true, appOk_lt (by omega) (by simp only [List.length_singleton]; omega), grd_true, if_pos rfl, toI_append, h2]; rfl
   | false =>
    have hs' : sameK d.1 (factAt d i) (factAt d j) = false := hs
    rw [hs', cond_false, if_neg (by simp), List.append_nil, h2]
  ·left
   have : j = d.2.length := by omega
   subst this
   have e1 : ¬ (d.2.length : Int) < (d.2.length : Int) := by omega
   simp only [spec_BlockOf_l0, spec_BlockOf_l0_b, e1, decide_false, cond_false, h2]) N ([], 0) (by simp only; omega) ⟨by simp, by simp [blk, toI]⟩
 exact this

def blocksOf (d : Db) : List (List Int) := if validDb d then (B (sameD d) d.2.length).map toI else []
theorem specBlocks {N : Nat} {d : Db} (h : SmallDb d) (hN : 1048576 < N) : spec_Blocks N d = some (blocksOf d) := by
 have hfs := h.facts
 unfold spec_Blocks spec_Blocks_b blocksOf
 cases hvb : validDb d with
 | false =>
  simp only [Bool.false_eq_true, if_false]
  obtain ⟨n, rfl⟩ : ∃ n, N = n + 1 := ⟨N - 1, by omega⟩
  simp only [spec_Blocks_l0, spec_Blocks_l0_b, specDb (d := (d.1, d.2)) h hN, show validDb (d.1, d.2) = false from hvb, Option.bind_some, cond_false]
  cases decide ((0 : Int) < (d.2.length : Int)) <;> rfl
 | true =>
  simp only [if_true]
  have hv := validDb_of hvb
  have hf := hv.few
  have hR := runs hv
  have := loop (fun k (s : List (List Int) × Nat) => spec_Blocks_l0 N k d.1 d.2 s.1 (s.2 : Int)) (fun s => s.2 ≤ d.2.length ∧ s.1 = (((sts (sameD d) s.2).map (blk (sameD d) d.2.length)).map toI)) (fun s => d.2.length - s.2) (fun o => o = some ((B (sameD d) d.2.length).map toI)) (fun k s hs => by
   obtain ⟨out, j⟩ := s
   obtain ⟨h1, h2⟩ := hs
   simp only at h1 h2 ⊢
   by_cases hj : j < d.2.length
   ·right
    have e1 : (j : Int) < (d.2.length : Int) := by omega
    have e3 : validDb (d.1, d.2) = true := hvb
    have hlen : out.length ≤ 14 := by rw [h2, List.length_map, List.length_map]; have := sts_length (sameD d) j; omega
    obtain ⟨q, r, b1, b2, b3⟩ := blk_head (hR.refl j) hj
    have e4 : toI (blk (sameD d) d.2.length j) = (q : Int) :: toI r := by rw [b1]; rfl
    have e5 : inb 0 (toI (blk (sameD d) d.2.length j)) = true := by rw [e4]; exact inb_lt (j := 0) (by simp)
    have e6 : at_ 0 (toI (blk (sameD d) d.2.length j)) 0 = (q : Int) := by rw [e4]; exact at_lt (j := 0) (by simp)
    refine ⟨((((sts (sameD d) (j + 1)).map (blk (sameD d) d.2.length)).map toI), j + 1), ⟨hj, rfl⟩, by simp only; omega, ?_⟩
    simp only [spec_Blocks_l0, spec_Blocks_l0_b, e1, decide_true, cond_true, specDb (d := (d.1, d.2)) h hN, e3, Option.bind_some, specBlockOf (d := (d.1, d.2)) h hvb hN (show j < (d.1, d.2).2.length from hj), w64_succ (show j < 4611686018427387904 by omega)]
    rw [show sameD (d.1, d.2) = sameD d from rfl, e5, grd_true, e6, beqI, sts_succ]
    by_cases hst : isSt (sameD d) j = true
    ·have hq := b3.2 hst
     rw [if_pos hst, decide_eq_true (by rw [hq]), cond_true, appOk_lt (by omega) (by simp only [List.length_singleton]; omega), grd_true, List.map_append, List.map_append, ← h2]; rfl
    ·have hq : ¬ (q : Int) = (j : Int) := fun hc => hst (b3.1 (by omega))
     rw [if_neg hst, decide_eq_false hq, cond_false, List.append_nil, ← h2]
   ·left
    have : j = d.2.length := by omega
    subst this
    have e1 : ¬ (d.2.length : Int) < (d.2.length : Int) := by omega
    simp only [spec_Blocks_l0, spec_Blocks_l0_b, e1, decide_false, cond_false, h2]
    rfl) N ([], 0) (by simp only; omega) ⟨by simp, by simp [sts]⟩
  exact this
theorem implBlk {N : Nat} {d : Db} (h : SmallDb d) (hvb : validDb d = true) (hN : 1048576 < N) : impl_blocks N d = some (blocksOf d) := by
 unfold blocksOf
 rw [if_pos hvb]
 ·have hv := validDb_of hvb
  have hf := hv.few
  have hR := runs hv
  unfold impl_blocks impl_blocks_b
  have := loop (fun k (s : List (List Int) × Nat) => impl_blocks_l0 N k d.1 d.2 s.1 d.2 (d.2.length : Int) (s.2 : Int)) (fun s => s.2 ≤ d.2.length ∧ s.1 = (B (sameD d) s.2).map toI) (fun s => d.2.length - s.2) (fun o => o = some ((B (sameD d) d.2.length).map toI)) (fun k s hs => by
   obtain ⟨out, j⟩ := s
   obtain ⟨h1, h2⟩ := hs
   simp only at h1 h2 ⊢
   by_cases hj : j < d.2.length
   ·right
    have e1 : (j : Int) < (d.2.length : Int) := by omega
    have hlen : out.length ≤ 14 := by rw [h2, List.length_map]; have := B_len (sameD d) j; omega
    refine ⟨((B (sameD d) (j + 1)).map toI, j + 1), ⟨hj, rfl⟩, by simp only; omega, ?_⟩
    simp only [impl_blocks_l0, impl_blocks_l0_b, e1, decide_true, cond_true, inb_lt hj, grd_true, w64_succ (show j < 4611686018427387904 by omega)]
    rw [w64_id (show -9223372036854775808 ≤ (out.length : Int) - 1 by omega) (by omega)]
    have new : isSt (sameD d) j = true → grd (appOk out [[(j : Int)]] 24) (impl_blocks_l0 N k d.1 d.2 (out ++ [[(j : Int)]]) d.2 (d.2.length : Int) ((j + 1 : Nat) : Int)) = impl_blocks_l0 N k d.1 d.2 ((B (sameD d) (j + 1)).map toI) d.2 (d.2.length : Int) ((j + 1 : Nat) : Int) := fun hst => by
     rw [appOk_lt (by omega) (by simp only [List.length_singleton]; omega), grd_true, B_new hR hst, List.map_append, ← h2]; rfl
    by_cases h0 : j = 0
    ·subst h0
     have ho : out = [] := by rw [h2]; rfl
     have hn : ¬ (out.length : Int) - 1 ≥ 0 := by rw [ho]; simp
     rw [decide_eq_false hn, cond_false]
     exact new (isSt_iff.2 (fun k hk => by omega))
    ·obtain ⟨A, t, a1, a2, a3, a4⟩ := last_start hR j (by omega) (by omega)
     obtain ⟨q, r, b1, b2, b3⟩ := blk_head (hR.refl t) a2
     have hq : q = t := b3.2 a3
     subst hq
     have hout : out = ((A.map (blk (sameD d) j)).map toI) ++ [toI (blk (sameD d) j q)] := by
      rw [h2]; unfold B; rw [a1, List.map_append, List.map_append]; rfl
     generalize hX : (A.map (blk (sameD d) j)).map toI = X at hout
     have hl : (out.length : Int) - 1 = (X.length : Int) := by rw [hout]; simp
     have hXl : X.length < out.length := by rw [hout]; simp
     have hat : at_ [] out (X.length : Int) = toI (blk (sameD d) j q) := by
      rw [at_lt hXl]
      simp only [hout]
      rw [List.getElem_append_right (by omega)]
      simp
     have e4 : toI (blk (sameD d) j q) = (q : Int) :: toI r := by rw [b1]; rfl
     have e5 : inb 0 (toI (blk (sameD d) j q)) = true := by rw [e4]; exact inb_lt (j := 0) (by simp)
     have e6 : at_ 0 (toI (blk (sameD d) j q)) 0 = (q : Int) := by rw [e4]; exact at_lt (j := 0) (by simp)
     have hql : q < d.2.length := by omega
     rw [hl, decide_eq_true (show (X.length : Int) ≥ 0 by omega), cond_true, inb_lt hXl, grd_true, hat, e5, grd_true, e6, inb_lt hql, grd_true, fact_at hql, fact_at hj,
      implSame (fact_small h hql) (fact_small h hj) hN hv.rels (hv.fact q hql) (hv.fact j hj), Option.bind_some]
     cases hs : sameD d q j with
     | true =>
      have hs' : sameK d.1 (factAt d q) (factAt d j) = true := hs
      have hns : ¬ isSt (sameD d) j = true := fun hc => by
       have := isSt_iff.1 hc q a2
       rw [hR.symm _ _ hs] at this; simp at this
      have hbl := blk_length (sameD d) j q
      have hgrow : growOk (X.length : Int) (X.length : Int) out = true := by unfold growOk; rw [decide_eq_true rfl, decide_eq_true (show (0 : Int) ≤ X.length by omega), decide_eq_true (show (X.length : Int) < (out.length : Int) by omega)]; rfl
      rw [hs', cond_true, grd_true, grd_true, appOk_lt (by omega) (by rw [toI_length]; simp only [List.length_singleton]; omega), grd_true, grd_true, hgrow, grd_true, letv_eq]
      congr 1
      rw [B_old hR hns hj a1 hs, List.map_append, hX, hout, Int.toNat_natCast, List.set_append_right _ _ (by omega), Nat.sub_self]
      simp [toI]
     | false =>
      have hs' : sameK d.1 (factAt d q) (factAt d j) = false := hs
      rw [hs', cond_false]
      refine new (isSt_iff.2 (fun k hk => ?_))
      rw [Bool.eq_false_iff]
      intro hc
      have c1 := hR.symm _ _ hc
      have c2 := hR.run k (j - 1) j (by omega) (by omega) (by omega) c1
      have c3 := hR.trans _ _ _ (hR.symm _ _ c2) c1
      have c4 := hR.trans _ _ _ (a4 (j - 1) (by omega) (by omega)) c3
      rw [hs] at c4; simp at c4
   ·left
    have : j = d.2.length := by omega
    subst this
    have e1 : ¬ (d.2.length : Int) < (d.2.length : Int) := by omega
    simp only [impl_blocks_l0, impl_blocks_l0_b, e1, decide_false, cond_false, h2]) N ([], 0) (by simp only; have := h.facts; omega) ⟨by simp, by simp [B, sts]⟩
  have this : impl_blocks_l0 N N d.1 d.2 [] d.2 (d.2.length : Int) 0 = some ((B (sameD d) d.2.length).map toI) := this
  exact this
end Go.PL
namespace Go.PL
set_option linter.unusedVariables false
def sizes (d : Db) : List Nat := (blocksOf d).map List.length
theorem take_sum : ∀ (a : List Nat) (j : Nat), (a.take j).sum ≤ a.sum
 | [], j => by simp
 | x :: a, 0 => by simp
 | x :: a, j + 1 => by have := take_sum a j; simp only [List.take_succ_cons, List.sum_cons]; omega

theorem sizes_valid {d : Db} (hvb : validDb d = true) : (sizes d).sum = d.2.length ∧ (∀ x ∈ sizes d, 1 ≤ x) ∧ (sizes d).length ≤ 14 ∧ (blocksOf d).length = (sizes d).length := by
 have hv := validDb_of hvb
 have hR := runs hv
 have e : sizes d = (B (sameD d) d.2.length).map List.length := by
  unfold sizes blocksOf
  rw [if_pos hvb, List.map_map]
  apply List.map_congr_left
  intro x _
  exact toI_length x
 refine ⟨by rw [e]; exact B_length hR _ (Nat.le_refl _), ?_, ?_, by unfold sizes; simp⟩
 ·rw [e]
  intro x hx
  obtain ⟨b, hb, rfl⟩ := List.mem_map.1 hx
  unfold B at hb
  obtain ⟨s, hs, rfl⟩ := List.mem_map.1 hb
  obtain ⟨q, r, b1, _⟩ := blk_head (hR.refl s) (mem_sts.1 hs).1
  rw [b1]; simp
 ·rw [e, List.length_map]
  have := B_len (sameD d) d.2.length
  have := hv.few
  omega
theorem mem_sum : ∀ {a : List Nat} {x : Nat}, x ∈ a → x ≤ a.sum
 | y :: a, x, h => by
  rw [List.sum_cons]
  rcases List.mem_cons.1 h with rfl | h
  ·omega
  ·have := mem_sum h; omega

end Go.PL
namespace Go.PL
set_option linter.unusedVariables false
/-- The repair of rank r, the last block first. -/
def repR : List (List Int) → Nat → List Int
 | [], _ => []
 | b :: M, r => b.getD (r % b.length) 0 :: repR M (r / b.length)
def prodL : List (List Int) → Nat
 | [] => 1
 | b :: M => b.length * prodL M
def gsum (g : Int → Int) (l : List Int) : Int := (l.map g).sum
def minG (g : Int → Int) : List Int → Int
 | [] => 0
 | [x] => g x
 | x :: y :: l => min (g x) (minG g (y :: l))
theorem minG_le (g : Int → Int) : ∀ (b : List Int) (x : Int), x ∈ b → minG g b ≤ g x
 | [y], x, h => by simp only [List.mem_singleton] at h; subst h; simp [minG]
 | y :: z :: l, x, h => by
  simp only [minG]
  rcases List.mem_cons.1 h with rfl | h
  ·omega
  ·have := minG_le g (z :: l) x h; omega
theorem minG_mem (g : Int → Int) : ∀ (b : List Int), b ≠ [] → ∃ x ∈ b, g x = minG g b
 | [], h => absurd rfl h
 | [y], _ => ⟨y, by simp, rfl⟩
 | y :: z :: l, _ => by
  obtain ⟨x, h1, h2⟩ := minG_mem g (z :: l) (by simp)
  simp only [minG]
  by_cases h : g y ≤ minG g (z :: l)
  ·exact ⟨y, by simp, by omega⟩
  ·exact ⟨x, List.mem_cons_of_mem _ h1, by omega⟩
def loG (g : Int → Int) (M : List (List Int)) : Int := (M.map (minG g)).sum
theorem rep_lo (g : Int → Int) : ∀ (M : List (List Int)), (∀ b ∈ M, b ≠ []) → (∀ r, loG g M ≤ gsum g (repR M r)) ∧ ∃ r, r < prodL M ∧ gsum g (repR M r) = loG g M
 | [], _ => ⟨fun r => by simp [loG, gsum, repR], 0, by simp [prodL], by simp [loG, gsum, repR]⟩
 | b :: M, h => by
  obtain ⟨h1, r', h2, h3⟩ := rep_lo g M (fun b hb => h b (List.mem_cons_of_mem _ hb))
  have hb := h b (by simp)
  have hl : 0 < b.length := List.length_pos_iff.2 hb
  refine ⟨fun r => ?_, ?_⟩
  ·have hm : r % b.length < b.length := Nat.mod_lt _ hl
   have e : b.getD (r % b.length) 0 = b[r % b.length] := by simp [hm]
   have k1 := minG_le g b _ (List.getElem_mem hm)
   have k2 := h1 (r / b.length)
   simp only [loG, gsum, repR, List.map_cons, List.sum_cons, e] at k2 ⊢
   omega
  ·obtain ⟨x, hx, ex⟩ := minG_mem g b hb
   obtain ⟨i, hi, rfl⟩ := List.mem_iff_getElem.1 hx
   refine ⟨i + b.length * r', ?_, ?_⟩
   ·simp only [prodL]
    calc i + b.length * r' < b.length + b.length * r' := by omega
     _ = b.length * (r' + 1) := by rw [Nat.mul_add]; omega
     _ ≤ b.length * prodL M := Nat.mul_le_mul_left _ h2
   ·have e1 : (i + b.length * r') % b.length = i := by rw [Nat.add_mul_mod_self_left, Nat.mod_eq_of_lt hi]
    have e2 : (i + b.length * r') / b.length = r' := by rw [Nat.add_mul_div_left _ _ hl, Nat.div_eq_of_lt hi, Nat.zero_add]
    have e3 : b.getD i 0 = b[i] := by simp [hi]
    simp only [loG, gsum, repR, List.map_cons, List.sum_cons, e1, e2, e3, ex] at h3 ⊢
    omega
/-- The same for the greatest. -/
def hiG (g : Int → Int) (M : List (List Int)) : Int := - loG (fun x => - g x) M
theorem gsum_neg (g : Int → Int) : ∀ l : List Int, gsum (fun x => - g x) l = - gsum g l
 | [] => rfl
 | x :: l => by
  have := gsum_neg g l
  simp only [gsum, List.map_cons, List.sum_cons] at this ⊢
  omega
theorem rep_hi (g : Int → Int) (M : List (List Int)) (h : ∀ b ∈ M, b ≠ []) : (∀ r, gsum g (repR M r) ≤ hiG g M) ∧ ∃ r, r < prodL M ∧ gsum g (repR M r) = hiG g M := by
 obtain ⟨h1, r, h2, h3⟩ := rep_lo (fun x => - g x) M h
 refine ⟨fun r => ?_, r, h2, ?_⟩
 ·have := h1 r
  rw [gsum_neg] at this
  unfold hiG; omega
 ·rw [gsum_neg] at h3
  unfold hiG; omega
end Go.PL
namespace Go.PL
set_option linter.unusedVariables false
def repOf (L : List (List Int)) (r : Nat) : List Int := (repR L.reverse r).reverse
theorem nthRepair {N : Nat} {L : List (List Int)} {r : Nat} (hl : L.length ≤ 1000) (hne : ∀ b ∈ L, b ≠ []) (hb : ∀ b ∈ L, b.length ≤ 1000) (hr : r ≤ 1000000000) (hN : 1048576 < N) : impl_nthRepair N L (r : Int) = some (repOf L r) := by
 unfold impl_nthRepair impl_nthRepair_b
 rw [makeOk_lt (by omega), grd_true, w64_id (by omega) (by omega), Int.toNat_natCast]
 have := loop (fun k (s : Nat × List Int × Nat) => impl_nthRepair_l0 N k L (s.1 : Int) s.2.1 ((s.2.2 : Int) - 1)) (fun s => s.1 ≤ 1000000000 ∧ s.2.2 ≤ L.length ∧ ∃ R, s.2.1 = List.replicate s.2.2 0 ++ R ∧ (repR (L.take s.2.2).reverse s.1).reverse ++ R = repOf L r) (fun s => s.2.2) (fun o => o = some (repOf L r)) (fun k s hs => by
  obtain ⟨rk, out, j⟩ := s
  obtain ⟨h0, h1, R, h2, h3⟩ := hs
  simp only at h0 h1 h2 h3 ⊢
  cases j with
  | zero =>
   left
   have e : ¬ (((0 : Nat) : Int) - 1 ≥ 0) := by omega
   simp only [impl_nthRepair_l0, impl_nthRepair_l0_b, decide_eq_false e, cond_false]
   rw [← h3, h2]; simp [repR]
  | succ j =>
   right
   have hj : j < L.length := by omega
   have ei : ((j + 1 : Nat) : Int) - 1 = (j : Int) := by omega
   have hbl : 0 < (L[j]).length := List.length_pos_iff.2 (hne _ (List.getElem_mem hj))
   have hbh := hb _ (List.getElem_mem hj)
   have hm : rk % (L[j]).length < (L[j]).length := Nat.mod_lt _ hbl
   have em : (rk : Int).tmod ((L[j]).length : Int) = ((rk % (L[j]).length : Nat) : Int) := by
    rw [Int.tmod_eq_emod_of_nonneg (by omega)]; rfl
   have ed : (rk : Int).tdiv ((L[j]).length : Int) = ((rk / (L[j]).length : Nat) : Int) := by
    rw [Int.tdiv_eq_ediv_of_nonneg (by omega)]; rfl
   have hdl : rk / (L[j]).length ≤ rk := Nat.div_le_self _ _
   have ho : j < out.length := by rw [h2]; simp; omega
   have hz : ((L[j]).length : Int) ≠ 0 := by omega
   refine ⟨(rk / (L[j]).length, List.replicate j 0 ++ ((L[j])[rk % (L[j]).length] :: R), j), ⟨by simp only; omega, by simp only; omega, _, rfl, ?_⟩, by simp only; omega, ?_⟩
   ·rw [← h3, List.take_succ_eq_append_getElem hj, List.reverse_append, List.reverse_singleton, List.singleton_append]
    simp only [repR, List.reverse_cons, List.append_assoc, List.singleton_append]
    rw [List.getD_eq_getElem?_getD, List.getElem?_eq_getElem hm]; rfl
   ·simp only [impl_nthRepair_l0, impl_nthRepair_l0_b, ei, show (j : Int) ≥ 0 by omega, decide_true, cond_true, inb_lt hj, grd_true, at_lt hj, grz_ne hz, em, ed, inb_lt hm, inb_lt ho, at_lt hm, letv_eq, Int.toNat_natCast]
    rw [w64_id (x := ((rk / (L[j]).length : Nat) : Int)) (Int.le_trans (by decide) (Int.natCast_nonneg _)) (Int.le_trans (Int.ofNat_le.2 (Nat.le_trans hdl h0)) (by decide)), w64_id (x := (j : Int) - 1) (by omega) (by omega)]
    congr 1
    rw [h2, List.replicate_succ', List.append_assoc, List.set_append_right _ _ (by simp)]
    simp) N (r, List.replicate L.length 0, L.length) (by simp only; omega) ⟨hr, Nat.le_refl _, [], by simp, by simp [repOf]⟩
 exact this

theorem pow_le : ∀ x : Nat, x ≤ 2 ^ x
 | 0 => by simp
 | x + 1 => by have := pow_le x; rw [Nat.pow_succ]; have : 1 ≤ 2 ^ x := Nat.one_le_two_pow; omega
theorem prodL_le : ∀ M : List (List Int), prodL M ≤ 2 ^ ((M.map List.length).sum)
 | [] => by simp [prodL]
 | b :: M => by
  have := prodL_le M
  simp only [prodL, List.map_cons, List.sum_cons, Nat.pow_add]
  exact Nat.mul_le_mul (pow_le _) this
theorem prodL_append : ∀ A B : List (List Int), prodL (A ++ B) = prodL A * prodL B
 | [], B => by simp [prodL]
 | b :: A, B => by simp only [List.cons_append, prodL, prodL_append A B, Nat.mul_assoc]
theorem prodL_reverse (M : List (List Int)) : prodL M.reverse = prodL M := by
 induction M with
 | nil => rfl
 | cons b M ih => rw [List.reverse_cons, prodL_append, ih]; simp only [prodL]; rw [Nat.mul_one, Nat.mul_comm]
theorem countRepairs {N : Nat} {L : List (List Int)} (hl : L.length ≤ 1000) (hs : (L.map List.length).sum ≤ 20) (hN : 1048576 < N) : impl_countRepairs N L = some (prodL L : Int) := by
 unfold impl_countRepairs impl_countRepairs_b
 have := loop (fun k (s : Nat × Nat) => impl_countRepairs_l0 N k (s.1 : Int) L (L.length : Int) (s.2 : Int)) (fun s => s.2 ≤ L.length ∧ s.1 = prodL (L.take s.2)) (fun s => L.length - s.2) (fun o => o = some (prodL L : Int)) (fun k s hh => by
  obtain ⟨n, j⟩ := s
  obtain ⟨h1, h2⟩ := hh
  simp only at h1 h2 ⊢
  by_cases hj : j < L.length
  ·right
   have e1 : (j : Int) < (L.length : Int) := by omega
   have e2 : prodL (L.take (j + 1)) = n * (L[j]).length := by
    rw [List.take_succ_eq_append_getElem hj, prodL_append, ← h2]; simp [prodL]
   have e3 : prodL (L.take (j + 1)) ≤ 1048576 := by
    have a1 := prodL_le (L.take (j + 1))
    have a2 : ((L.take (j + 1)).map List.length).sum ≤ 20 := by
     rw [List.map_take]; exact Nat.le_trans (take_sum _ _) hs
    have a3 : 2 ^ ((L.take (j + 1)).map List.length).sum ≤ 2 ^ 20 := Nat.pow_le_pow_right (by omega) a2
    omega
   refine ⟨(prodL (L.take (j + 1)), j + 1), ⟨hj, rfl⟩, by simp only; omega, ?_⟩
   simp only [impl_countRepairs_l0, impl_countRepairs_l0_b, e1, decide_true, cond_true, inb_lt hj, grd_true, at_lt hj, w64_succ (show j < 4611686018427387904 by omega)]
   have e4 : (n : Int) * ((L[j]).length : Int) = ((prodL (L.take (j + 1)) : Nat) : Int) := by rw [e2]; simp
   rw [e4, w64_id (by omega) (by omega)]
  ·left
   have : j = L.length := by omega
   subst this
   simp only [impl_countRepairs_l0, impl_countRepairs_l0_b, Int.lt_irrefl, decide_false, cond_false, h2, List.take_length]) N (1, 0) (by simp only; omega) ⟨by simp, by simp [prodL]⟩
 exact this
end Go.PL
namespace Go.PL
set_option linter.unusedVariables false
theorem imin_le (a b : Int) : imin a b ≤ a ∧ imin a b ≤ b ∧ (imin a b = a ∨ imin a b = b) := by unfold imin; split <;> omega
theorem imax_le (a b : Int) : a ≤ imax a b ∧ b ≤ imax a b ∧ (imax a b = a ∨ imax a b = b) := by unfold imax; split <;> omega
theorem rangeLoop {P : Nat} (val : Nat → Int) (f : Nat → Int → Int → Int → Option (Int × Int)) (hend : ∀ k a b, f (k + 1) a b (P : Int) = some (a, b)) (hstep : ∀ k a b j, j < P → f (k + 1) a b (j : Int) = f k (imin a (val j)) (imax b (val j)) ((j + 1 : Nat) : Int)) {k : Nat} (hk : P < k) (h0 : 0 < P) :
  ∃ lo hi, f k (val 0) (val 0) 0 = some (lo, hi) ∧ (∀ j, j < P → lo ≤ val j ∧ val j ≤ hi) ∧ (∃ j, j < P ∧ lo = val j) ∧ (∃ j, j < P ∧ hi = val j) := by
 have := loop (fun k (s : Int × Int × Nat) => f k s.1 s.2.1 (s.2.2 : Int)) (fun s => s.2.2 ≤ P ∧ (∀ j, j < s.2.2 → s.1 ≤ val j ∧ val j ≤ s.2.1) ∧ (∃ j, j < P ∧ s.1 = val j) ∧ (∃ j, j < P ∧ s.2.1 = val j)) (fun s => P - s.2.2) (fun o => ∃ lo hi, o = some (lo, hi) ∧ (∀ j, j < P → lo ≤ val j ∧ val j ≤ hi) ∧ (∃ j, j < P ∧ lo = val j) ∧ (∃ j, j < P ∧ hi = val j)) (fun k s hs => by
  obtain ⟨a, b, j⟩ := s
  obtain ⟨h1, h2, h3, h4⟩ := hs
  simp only at h1 h2 h3 h4 ⊢
  by_cases hj : j < P
  ·right
   obtain ⟨a1, a2, a3⟩ := imin_le a (val j)
   obtain ⟨b1, b2, b3⟩ := imax_le b (val j)
   refine ⟨(imin a (val j), imax b (val j), j + 1), ⟨hj, fun i hi => ?_, ?_, ?_⟩, by simp only; omega, hstep k a b j hj⟩
   ·by_cases hij : i < j
    ·have := h2 i hij; simp only; omega
    ·have : i = j := by simp only at hi; omega
     subst this; simp only; omega
   ·rcases a3 with h | h
    ·obtain ⟨q, q1, q2⟩ := h3; exact ⟨q, q1, h.trans q2⟩
    ·exact ⟨j, hj, h⟩
   ·rcases b3 with h | h
    ·obtain ⟨q, q1, q2⟩ := h4; exact ⟨q, q1, h.trans q2⟩
    ·exact ⟨j, hj, h⟩
  ·left
   have : j = P := by omega
   subst this
   exact ⟨a, b, hend k a b, h2, h3, h4⟩) k (val 0, val 0, 0) (by simpa using hk) ⟨by simp, by simp, ⟨0, h0, rfl⟩, ⟨0, h0, rfl⟩⟩
 exact this
theorem gsum_append (g : Int → Int) (a b : List Int) : gsum g (a ++ b) = gsum g a + gsum g b := by simp [gsum]
theorem gsum_reverse (g : Int → Int) : ∀ l : List Int, gsum g l.reverse = gsum g l
 | [] => rfl
 | x :: l => by rw [List.reverse_cons, gsum_append, gsum_reverse g l]; simp [gsum]; omega
/-- The least over all ranks is the sum of the blocks' least ones; so for the greatest. -/
theorem range_val {L : List (List Int)} (hne : ∀ b ∈ L, b ≠ []) (g : Int → Int) {lo hi : Int} (h1 : ∀ j, j < prodL L → lo ≤ gsum g (repOf L j) ∧ gsum g (repOf L j) ≤ hi) (h2 : ∃ j, j < prodL L ∧ lo = gsum g (repOf L j)) (h3 : ∃ j, j < prodL L ∧ hi = gsum g (repOf L j)) : lo = loG g L.reverse ∧ hi = hiG g L.reverse := by
 have hne' : ∀ b ∈ L.reverse, b ≠ [] := fun b hb => hne b (List.mem_reverse.1 hb)
 have e : ∀ r, gsum g (repOf L r) = gsum g (repR L.reverse r) := fun r => by unfold repOf; rw [gsum_reverse]
 obtain ⟨k1, r, k2, k3⟩ := rep_lo g L.reverse hne'
 obtain ⟨m1, r', m2, m3⟩ := rep_hi g L.reverse hne'
 rw [prodL_reverse] at k2 m2
 constructor
 ·obtain ⟨j, hj, ej⟩ := h2
  have a1 := (h1 r k2).1
  rw [e, k3] at a1
  have a2 := k1 j
  rw [← e, ← ej] at a2
  omega
 ·obtain ⟨j, hj, ej⟩ := h3
  have a1 := (h1 r' m2).2
  rw [e, m3] at a1
  have a2 := m1 j
  rw [← e, ← ej] at a2
  omega
end Go.PL
namespace Go.PL
set_option linter.unusedVariables false
def mt (d : Db) (r col v x : Int) : Bool := decide ((at_ (0, []) d.2 x).1 = r) && decide (at_ 0 (at_ (0, []) d.2 x).2 col = v)
def ColOk (d : Db) (r col : Int) : Prop := ∀ x : Int, 0 ≤ x → x < (d.2.length : Int) → (at_ (0, []) d.2 x).1 = r → inb col (at_ (0, []) d.2 x).2 = true
theorem groupOf {N : Nat} {d : Db} {l : List Int} {r col v : Int} (hl : l.length ≤ 1000) (hin : ∀ x ∈ l, 0 ≤ x ∧ x < (d.2.length : Int)) (hc : ColOk d r col) (hN : 1048576 < N) : impl_groupOf N d l r col v = some (l.filter (mt d r col v)) := by
 unfold impl_groupOf impl_groupOf_b
 have := loop (fun k (s : List Int × Nat) => impl_groupOf_l0 N k r col v d.1 d.2 s.1 l (l.length : Int) (s.2 : Int)) (fun s => s.2 ≤ l.length ∧ s.1 = (l.take s.2).filter (mt d r col v)) (fun s => l.length - s.2) (fun o => o = some (l.filter (mt d r col v))) (fun k s hs => by
  obtain ⟨out, j⟩ := s
  obtain ⟨h1, h2⟩ := hs
  simp only at h1 h2 ⊢
  by_cases hj : j < l.length
  ·right
   have e1 : (j : Int) < (l.length : Int) := by omega
   have hx := hin _ (List.getElem_mem hj)
   have hlen : out.length ≤ 1000 := by
    rw [h2]; have := List.length_filter_le (mt d r col v) (l.take j); rw [List.length_take] at this; omega
   refine ⟨((l.take (j + 1)).filter (mt d r col v), j + 1), ⟨hj, rfl⟩, by simp only; omega, ?_⟩
   simp only [impl_groupOf_l0, impl_groupOf_l0_b, e1, decide_true, cond_true, inb_lt hj, grd_true, at_lt hj, inb_int hx.1 hx.2, w64_succ (show j < 4611686018427387904 by omega), beqI]
   rw [List.take_succ_eq_append_getElem hj, List.filter_append, ← h2]
   by_cases q1 : (at_ (0, []) d.2 l[j]).1 = r
   ·rw [decide_eq_true q1, cond_true, hc _ hx.1 hx.2 q1, grd_true]
    by_cases q2 : at_ 0 (at_ (0, []) d.2 l[j]).2 col = v
    ·have hm : mt d r col v l[j] = true := by unfold mt; rw [decide_eq_true q1, decide_eq_true q2]; rfl
     rw [decide_eq_true q2, cond_true, appOk_lt (by omega) (by simp only [List.length_singleton]; omega), grd_true]
     simp [hm]
    ·have hm : mt d r col v l[j] = false := by unfold mt; rw [decide_eq_false q2, Bool.and_false]
     rw [decide_eq_false q2, cond_false]
     simp [hm]
   ·have hm : mt d r col v l[j] = false := by unfold mt; rw [decide_eq_false q1, Bool.false_and]
    rw [decide_eq_false q1, cond_false]
    simp [hm]
  ·left
   have : j = l.length := by omega
   subst this
   simp only [impl_groupOf_l0, impl_groupOf_l0_b, Int.lt_irrefl, decide_false, cond_false, h2, List.take_length]) N ([], 0) (by simp only; omega) ⟨by simp, by simp⟩
 exact this
def one (p : Int → Bool) (x : Int) : Int := if p x then 1 else 0
theorem gsum_one (p : Int → Bool) : ∀ l : List Int, gsum (one p) l = ((l.filter p).length : Int)
 | [] => rfl
 | x :: l => by
  have := gsum_one p l
  simp only [gsum, List.map_cons, List.sum_cons, one] at this ⊢
  cases h : p x <;> simp [h, this] <;> omega
theorem repR_in : ∀ (M : List (List Int)) (r : Nat), (∀ b ∈ M, b ≠ []) → ∀ x ∈ repR M r, ∃ b ∈ M, x ∈ b
 | [], r, _, x, hx => by simp [repR] at hx
 | b :: M, r, h, x, hx => by
  simp only [repR] at hx
  rcases List.mem_cons.1 hx with rfl | hx
  ·have hl : 0 < b.length := List.length_pos_iff.2 (h b (by simp))
   have hm : r % b.length < b.length := Nat.mod_lt _ hl
   refine ⟨b, by simp, ?_⟩
   rw [List.getD_eq_getElem?_getD, List.getElem?_eq_getElem hm]
   exact List.getElem_mem hm
  ·obtain ⟨b', h1, h2⟩ := repR_in M _ (fun b hb => h b (List.mem_cons_of_mem _ hb)) x hx
   exact ⟨b', List.mem_cons_of_mem _ h1, h2⟩
theorem repR_length : ∀ (M : List (List Int)) (r : Nat), (repR M r).length = M.length
 | [], _ => rfl
 | b :: M, r => by simp [repR, repR_length M]
theorem blocks_ne {d : Db} (hvb : validDb d = true) : ∀ b ∈ blocksOf d, b ≠ [] ∧ b.length ≤ 14 := by
 intro b hb
 obtain ⟨s1, s2, s3, s4⟩ := sizes_valid hvb
 have hm : b.length ∈ sizes d := List.mem_map.2 ⟨_, hb, rfl⟩
 have h1 := s2 _ hm
 have h2 := mem_sum hm
 have hf := (validDb_of hvb).few
 exact ⟨fun h => by rw [h] at h1; simp at h1, by omega⟩
theorem blocks_in' {d : Db} (hvb : validDb d = true) : ∀ b ∈ blocksOf d, ∀ x ∈ b, 0 ≤ x ∧ x < (d.2.length : Int) := by
 intro b hb x hx
 unfold blocksOf at hb
 rw [if_pos hvb] at hb
 obtain ⟨b', hb', rfl⟩ := List.mem_map.1 hb
 unfold B at hb'
 obtain ⟨s, hs, rfl⟩ := List.mem_map.1 hb'
 unfold toI at hx
 obtain ⟨k, hk, rfl⟩ := List.mem_map.1 hx
 have := List.mem_range.1 (List.mem_filter.1 hk).1
 omega
theorem prod_small {d : Db} (hvb : validDb d = true) : prodL (blocksOf d) ≤ 16384 := by
 obtain ⟨s1, s2, s3, s4⟩ := sizes_valid hvb
 have hf := (validDb_of hvb).few
 have h1 := prodL_le (blocksOf d)
 have h2 : ((blocksOf d).map List.length).sum ≤ 14 := by have : ((blocksOf d).map List.length).sum = d.2.length := s1; omega
 have h3 : 2 ^ ((blocksOf d).map List.length).sum ≤ 2 ^ 14 := Nat.pow_le_pow_right (by omega) h2
 omega
theorem prod_pos : ∀ M : List (List Int), (∀ b ∈ M, b ≠ []) → 0 < prodL M
 | [], _ => by simp [prodL]
 | b :: M, h => by
  simp only [prodL]
  exact Nat.mul_pos (List.length_pos_iff.2 (h b (by simp))) (prod_pos M (fun b hb => h b (List.mem_cons_of_mem _ hb)))
theorem rep_in {d : Db} (hvb : validDb d = true) (r : Nat) : (repOf (blocksOf d) r).length ≤ 14 ∧ ∀ x ∈ repOf (blocksOf d) r, 0 ≤ x ∧ x < (d.2.length : Int) := by
 obtain ⟨s1, s2, s3, s4⟩ := sizes_valid hvb
 constructor
 ·unfold repOf; rw [List.length_reverse, repR_length, List.length_reverse]; omega
 ·intro x hx
  unfold repOf at hx
  obtain ⟨b, h1, h2⟩ := repR_in _ _ (fun b hb => (blocks_ne hvb b (List.mem_reverse.1 hb)).1) x (List.mem_reverse.1 hx)
  exact blocks_in' hvb b (List.mem_reverse.1 h1) x h2
theorem rangeOf1 {N : Nat} {d : Db} {r col v : Int} (h : SmallDb d) (hvb : validDb d = true) (hc : ColOk d r col) (hN : 1048576 < N) :
  impl_rangeOf_GroupInAllRepairs_c1 N d d r col v = some (loG (one (mt d r col v)) (blocksOf d).reverse, hiG (one (mt d r col v)) (blocksOf d).reverse) := by
 obtain ⟨s1, s2, s3, s4⟩ := sizes_valid hvb
 have hf := (validDb_of hvb).few
 have hne := fun b hb => (blocks_ne hvb b hb).1
 have hsz : ((blocksOf d).map List.length).sum ≤ 20 := by have : ((blocksOf d).map List.length).sum = d.2.length := s1; omega
 have hP := prod_small hvb
 have hP0 := prod_pos (blocksOf d) hne
 have nth : ∀ q : Nat, q ≤ 1000000000 → impl_nthRepair N (blocksOf d) (q : Int) = some (repOf (blocksOf d) q) := fun q hq => nthRepair (by omega) hne (fun b hb => by have := (blocks_ne hvb b hb).2; omega) hq hN
 let val : Nat → Int := fun q => gsum (one (mt d r col v)) (repOf (blocksOf d) q)
 have c1 : ∀ q : Nat, impl_GroupInAllRepairs_c1 N (repOf (blocksOf d) q) d r col v = some (val q) := fun q => by
  unfold impl_GroupInAllRepairs_c1
  rw [groupOf (by have := (rep_in hvb q).1; omega) (rep_in hvb q).2 hc hN, Option.bind_some, ← gsum_one]
 unfold impl_rangeOf_GroupInAllRepairs_c1 impl_rangeOf_GroupInAllRepairs_c1_b
 rw [implBlk h hvb hN, Option.bind_some]
 have n0 := nth 0 (by omega)
 rw [show ((0 : Nat) : Int) = 0 from rfl] at n0
 rw [n0, Option.bind_some, c1, Option.bind_some, countRepairs (by omega) hsz hN, Option.bind_some]
 obtain ⟨lo, hi, k1, k2, k3, k4⟩ := rangeLoop (P := prodL (blocksOf d)) val (fun k a b i => impl_rangeOf_GroupInAllRepairs_c1_l0 N k d r col v (blocksOf d) a b (prodL (blocksOf d) : Int) i)
  (fun k a b => by simp only [impl_rangeOf_GroupInAllRepairs_c1_l0, impl_rangeOf_GroupInAllRepairs_c1_l0_b, Int.lt_irrefl, decide_false, cond_false])
  (fun k a b j hj => by
   have e1 : (j : Int) < (prodL (blocksOf d) : Int) := by omega
   simp only [impl_rangeOf_GroupInAllRepairs_c1_l0, impl_rangeOf_GroupInAllRepairs_c1_l0_b, e1, decide_true, cond_true, nth j (by omega), Option.bind_some, c1, w64_succ (show j < 4611686018427387904 by omega)]) (k := N) (by omega) hP0
 have k1 : impl_rangeOf_GroupInAllRepairs_c1_l0 N N d r col v (blocksOf d) (val 0) (val 0) (prodL (blocksOf d) : Int) 0 = some (lo, hi) := k1
 rw [k1]
 obtain ⟨e1, e2⟩ := range_val hne (one (mt d r col v)) k2 k3 k4
 rw [e1, e2]
end Go.PL
namespace Go.PL
set_option linter.unusedVariables false
theorem validRel_ar {r : Rel} (h : validRel r = true) : 1 ≤ r.2.1 ∧ r.2.1 ≤ 3 := by
 unfold validRel spec_IsValidRelation at h
 by_cases h1 : r.1.size = 1
 ·have hb : ∃ b, byteAt r.1 0 = some b := by
   unfold byteAt
   have : (0 : Int).toNat < r.1.size := by omega
   exact ⟨r.1[(0 : Int).toNat], by rw [if_pos (by omega), getElem?_pos]⟩
  obtain ⟨b, hb⟩ := hb
  rw [hb] at h
  simp only [Option.bind_some, l1In] at h
  by_cases h2 : 1 ≤ r.2.1 ∧ r.2.1 ≤ 3
  ·exact h2
  ·rw [decide_eq_false h2] at h
   exfalso
   revert h
   cases ((r.1.size : Int) == 1) <;> cases decide ((b.toNat : Int) ≥ 97) <;> cases decide ((b.toNat : Int) ≤ 122) <;> simp
 ·have h0 : ((r.1.size : Int) == 1) = false := by rw [beqI]; simp; omega
  rw [h0] at h
  simp at h
def isCol (d : Db) (r col : Int) : Bool := validDb d && (decide (0 ≤ r ∧ r ≤ (d.1.length : Int) - 1) && decide (0 ≤ col ∧ col ≤ (d.1.getD r.toNat (⟨#[]⟩, 0, 0)).2.1 - 1))
theorem specCol {N : Nat} {d : Db} {r col : Int} (h : SmallDb d) (hN : 1048576 < N) : spec_l27Ok N d r col = some (isCol d r col) := by
 have hr := h.rels
 unfold spec_l27Ok isCol
 rw [specDb h hN, Option.bind_some]
 cases hvb : validDb d with
 | false => rfl
 | true =>
  simp only [cond_true, l1In, Option.bind_some, Bool.true_and]
  rw [w64_id (x := (d.1.length : Int) - 1) (by omega) (by omega)]
  by_cases h1 : 0 ≤ r ∧ r ≤ (d.1.length : Int) - 1
  ·have ha := validRel_ar (validRels_at (validDb_of hvb).rels (j := r.toNat) (by omega))
   rw [decide_eq_true h1, cond_true, inb_int h1.1 (by omega), grd_true, Bool.true_and]
   rw [show at_ (⟨#[]⟩, 0, 0) d.1 r = d.1.getD r.toNat (⟨#[]⟩, 0, 0) from rfl, w64_id (by omega) (by omega)]
  ·rw [decide_eq_false h1]; rfl
theorem implCol {N : Nat} {d : Db} {r col : Int} (h : SmallDb d) (hN : 1048576 < N) : impl_isColumn N d r col = some (isCol d r col) := by
 rw [← specCol h hN]
 unfold impl_isColumn spec_l27Ok
 rw [specDb h hN, implDb h hN]
 simp only [within, l1In]
theorem colOk {d : Db} {r col : Int} (h : isCol d r col = true) : validDb d = true ∧ ColOk d r col := by
 unfold isCol at h
 simp only [Bool.and_eq_true, decide_eq_true_eq] at h
 obtain ⟨hvb, h1, h2⟩ := h
 refine ⟨hvb, fun x hx0 hx1 hr => ?_⟩
 have hv := validDb_of hvb
 obtain ⟨k, rfl⟩ : ∃ k : Nat, x = k := ⟨x.toNat, by omega⟩
 have hk : k < d.2.length := by omega
 rw [fact_at hk] at hr ⊢
 have g := (goodFact hv.rels (hv.fact k hk)).len
 rw [hr] at g
 exact inb_int h2.1 (by omega)
end Go.PL
namespace Go.PL
set_option linter.unusedVariables false
def relB (d : Db) (b : List Int) : Int := (at_ (0, []) d.2 (at_ 0 b 0)).1
def valB (d : Db) (col : Int) (b : List Int) : List Int := b.map fun x => at_ 0 (at_ (0, []) d.2 x).2 col
def valsOf (d : Db) (r col : Int) (L : List (List Int)) : List (List Int) := (L.filter fun b => decide (relB d b = r)).map (valB d col)
theorem valB_append (d : Db) (col : Int) (a b : List Int) : valB d col (a ++ b) = valB d col a ++ valB d col b := List.map_append
theorem valsOf_append (d : Db) (r col : Int) (A C : List (List Int)) : valsOf d r col (A ++ C) = valsOf d r col A ++ valsOf d r col C := by simp [valsOf]
theorem blocks_rel {d : Db} (hvb : validDb d = true) : ∀ b ∈ blocksOf d, ∀ x ∈ b, (at_ (0, []) d.2 x).1 = relB d b := by
 have hR := runs (validDb_of hvb)
 have hin := blocks_in' hvb
 intro b hb x hx
 have hb0 := hb
 unfold blocksOf at hb
 rw [if_pos hvb] at hb
 obtain ⟨b', hb', rfl⟩ := List.mem_map.1 hb
 unfold B at hb'
 obtain ⟨s, hs, rfl⟩ := List.mem_map.1 hb'
 have key : ∀ y ∈ toI (blk (sameD d) d.2.length s), (at_ (0, []) d.2 y).1 = (factAt d s).1 := by
  intro y hy
  unfold toI at hy
  obtain ⟨k, hk, rfl⟩ := List.mem_map.1 hy
  obtain ⟨k1, k2⟩ := List.mem_filter.1 hk
  have k1 := List.mem_range.1 k1
  rw [fact_at k1]
  have k2 : sameD d s k = true := k2
  simp only [sameD, sameK, Bool.and_eq_true, decide_eq_true_eq] at k2
  exact k2.1.symm
 unfold relB
 rw [key x hx]
 refine (key _ ?_).symm
 obtain ⟨q, r, b1, _⟩ := blk_head (hR.refl s) (mem_sts.1 hs).1
 rw [b1]
 show at_ 0 ((q : Int) :: toI r) 0 ∈ _
 rw [show at_ 0 ((q : Int) :: toI r) 0 = (q : Int) from at_lt (j := 0) (by simp)]
 simp [toI]
theorem vals1 {N : Nat} {d : Db} {r col : Int} {L : List (List Int)} {j : Nat} (hj : j < L.length) (hb : (L[j]).length ≤ 1000) (hin : ∀ x ∈ L[j], 0 ≤ x ∧ x < (d.2.length : Int)) (hrel : ∀ x ∈ L[j], (at_ (0, []) d.2 x).1 = r) (hc : ColOk d r col) (hN : 1048576 < N)
  (R : Int → Int → List (ByteArray × Int × Int) → List (Int × List Int) → List (List Int) → List (List Int) → Int → Option (List (List Int))) {out : List (List Int)} (ho : out.length ≤ 1000) :
  spec_l27Vals_l1 R N N r col d.1 d.2 out L (j : Int) [] 0 = R r col d.1 d.2 (out ++ [valB d col L[j]]) L (w64 ((j : Int) + 1)) := by
 have := loop (fun k (s : List Int × Nat) => spec_l27Vals_l1 R N k r col d.1 d.2 out L (j : Int) s.1 (s.2 : Int)) (fun s => s.2 ≤ (L[j]).length ∧ s.1 = valB d col ((L[j]).take s.2)) (fun s => (L[j]).length - s.2) (fun o => o = R r col d.1 d.2 (out ++ [valB d col L[j]]) L (w64 ((j : Int) + 1))) (fun k s hs => by
  obtain ⟨l, q⟩ := s
  obtain ⟨h1, h2⟩ := hs
  simp only at h1 h2 ⊢
  by_cases hq : q < (L[j]).length
  ·right
   have e1 : (q : Int) < ((L[j]).length : Int) := by omega
   have hx := hin _ (List.getElem_mem hq)
   have hlen : l.length ≤ 1000 := by rw [h2]; unfold valB; rw [List.length_map, List.length_take]; omega
   refine ⟨(valB d col ((L[j]).take (q + 1)), q + 1), ⟨hq, rfl⟩, by simp only; omega, ?_⟩
   simp only [spec_l27Vals_l1, spec_l27Vals_l1_b, inb_lt hj, grd_true, at_lt hj, e1, decide_true, cond_true, inb_lt hq, at_lt hq, inb_int hx.1 hx.2, hc _ hx.1 hx.2 (hrel _ (List.getElem_mem hq)), w64_succ (show q < 4611686018427387904 by omega)]
   rw [appOk_lt (by omega) (by simp only [List.length_singleton]; omega), grd_true, List.take_succ_eq_append_getElem hq, valB_append, ← h2]
   rfl
  ·left
   have : q = (L[j]).length := by omega
   subst this
   simp only [spec_l27Vals_l1, spec_l27Vals_l1_b, inb_lt hj, grd_true, at_lt hj, Int.lt_irrefl, decide_false, cond_false]
   rw [appOk_lt (by omega) (by simp only [List.length_singleton]; omega), grd_true, h2, List.take_length]) N ([], 0) (by simp only; omega) ⟨by simp, by simp [valB]⟩
 exact this
theorem specVals {N : Nat} {d : Db} {r col : Int} (h : SmallDb d) (hvb : validDb d = true) (hc : ColOk d r col) (hN : 1048576 < N) : spec_l27Vals N d r col = some (valsOf d r col (blocksOf d)) := by
 obtain ⟨s1, s2, s3, s4⟩ := sizes_valid hvb
 unfold spec_l27Vals spec_l27Vals_b
 rw [specBlocks h hN, Option.bind_some]
 generalize hL : blocksOf d = L at *
 have hne : ∀ b ∈ L, b ≠ [] ∧ b.length ≤ 14 := fun b hb => blocks_ne hvb b (hL ▸ hb)
 have hin : ∀ b ∈ L, ∀ x ∈ b, 0 ≤ x ∧ x < (d.2.length : Int) := fun b hb => blocks_in' hvb b (hL ▸ hb)
 have hrl : ∀ b ∈ L, ∀ x ∈ b, (at_ (0, []) d.2 x).1 = relB d b := fun b hb => blocks_rel hvb b (hL ▸ hb)
 have := loop (fun k (s : List (List Int) × Nat) => spec_l27Vals_l0 N k r col d.1 d.2 s.1 L (s.2 : Int)) (fun s => s.2 ≤ L.length ∧ s.1 = valsOf d r col (L.take s.2)) (fun s => L.length - s.2) (fun o => o = some (valsOf d r col L)) (fun k s hs => by
  obtain ⟨out, j⟩ := s
  obtain ⟨h1, h2⟩ := hs
  simp only at h1 h2 ⊢
  by_cases hj : j < L.length
  ·right
   have e1 : (j : Int) < (L.length : Int) := by omega
   have hm := List.getElem_mem hj
   have hpos : 0 < (L[j]).length := List.length_pos_iff.2 (hne _ hm).1
   have hb0 : at_ 0 L[j] 0 = (L[j])[0] := at_lt (j := 0) hpos
   have hx := hin _ hm _ (List.getElem_mem hpos)
   have hlen : out.length ≤ 1000 := by
    rw [h2]; unfold valsOf; rw [List.length_map]
    have := List.length_filter_le (fun b => decide (relB d b = r)) (L.take j)
    rw [List.length_take] at this; omega
   refine ⟨(valsOf d r col (L.take (j + 1)), j + 1), ⟨hj, rfl⟩, by simp only; omega, ?_⟩
   simp only [spec_l27Vals_l0, spec_l27Vals_l0_b, e1, decide_true, cond_true, inb_lt hj, grd_true, at_lt hj]
   rw [show inb 0 L[j] = true from inb_lt (j := 0) hpos, grd_true, hb0, inb_int hx.1 hx.2, grd_true, bneI, ← hb0, show (at_ (0, []) d.2 (at_ 0 L[j] 0)).1 = relB d L[j] from rfl, List.take_succ_eq_append_getElem hj, valsOf_append, ← h2]
   by_cases hr : relB d L[j] = r
   ·rw [decide_eq_true hr, Bool.not_true, cond_false, vals1 hj (by have := (hne _ hm).2; omega) (hin _ hm) (fun x hx => by rw [hrl _ hm x hx, hr]) hc hN _ hlen, w64_succ (by omega)]
    simp [valsOf, hr]
   ·rw [decide_eq_false hr, Bool.not_false, cond_true, w64_succ (by omega)]
    simp [valsOf, hr]
  ·left
   have : j = L.length := by omega
   subst this
   simp only [spec_l27Vals_l0, spec_l27Vals_l0_b, Int.lt_irrefl, decide_false, cond_false, h2, List.take_length]) N ([], 0) (by simp only; omega) ⟨by simp, by simp [valsOf]⟩
 exact this
end Go.PL
namespace Go.PL
set_option linter.unusedVariables false
def vl (d : Db) (col x : Int) : Int := at_ 0 (at_ (0, []) d.2 x).2 col
theorem vl_range {d : Db} (hv : ValidDb d) {r col x : Int} (hc : ColOk d r col) (h0 : 0 ≤ x) (h1 : x < (d.2.length : Int)) (hr : (at_ (0, []) d.2 x).1 = r) : 0 ≤ vl d col x ∧ vl d col x ≤ 9 := by
 have hi := hc x h0 h1 hr
 obtain ⟨k, rfl⟩ : ∃ k : Nat, x = k := ⟨x.toNat, by omega⟩
 have hk : k < d.2.length := by omega
 have hf := hv.fact k hk
 unfold vl
 rw [fact_at hk] at hi ⊢
 unfold fact1 at hf
 rw [Bool.and_eq_true, Bool.and_eq_true] at hf
 unfold inb at hi
 rw [Bool.and_eq_true, decide_eq_true_eq, decide_eq_true_eq] at hi
 rw [at_int hi.1 hi.2]
 have := List.all_eq_true.1 hf.2.2 _ (List.getElem_mem (show col.toNat < (factAt d k).2.length by omega))
 simpa using this
theorem columnOf {N : Nat} {d : Db} {l : List Int} {r col : Int} (hl : l.length ≤ 1000) (hin : ∀ x ∈ l, 0 ≤ x ∧ x < (d.2.length : Int)) (hr : ∀ x ∈ l, (at_ (0, []) d.2 x).1 = r) (hc : ColOk d r col) (hN : 1048576 < N) : impl_columnOf N d l r col = some (l.map (vl d col)) := by
 unfold impl_columnOf impl_columnOf_b
 have := loop (fun k (s : List Int × Nat) => impl_columnOf_l0 N k r col d.1 d.2 s.1 l (l.length : Int) (s.2 : Int)) (fun s => s.2 ≤ l.length ∧ s.1 = (l.take s.2).map (vl d col)) (fun s => l.length - s.2) (fun o => o = some (l.map (vl d col))) (fun k s hs => by
  obtain ⟨out, j⟩ := s
  obtain ⟨h1, h2⟩ := hs
  simp only at h1 h2 ⊢
  by_cases hj : j < l.length
  ·right
   have e1 : (j : Int) < (l.length : Int) := by omega
   have hx := hin _ (List.getElem_mem hj)
   have q1 := hr _ (List.getElem_mem hj)
   have hlen : out.length ≤ 1000 := by rw [h2, List.length_map, List.length_take]; omega
   refine ⟨((l.take (j + 1)).map (vl d col), j + 1), ⟨hj, rfl⟩, by simp only; omega, ?_⟩
   simp only [impl_columnOf_l0, impl_columnOf_l0_b, e1, decide_true, cond_true, inb_lt hj, grd_true, at_lt hj, inb_int hx.1 hx.2, w64_succ (show j < 4611686018427387904 by omega), beqI, q1, hc _ hx.1 hx.2 q1]
   rw [appOk_lt (by omega) (by simp only [List.length_singleton]; omega), grd_true, List.take_succ_eq_append_getElem hj, List.map_append, ← h2]
   rfl
  ·left
   have : j = l.length := by omega
   subst this
   simp only [impl_columnOf_l0, impl_columnOf_l0_b, Int.lt_irrefl, decide_false, cond_false, h2, List.take_length]) N ([], 0) (by simp only; omega) ⟨by simp, by simp⟩
 exact this
theorem sum_range : ∀ {l : List Int}, (∀ x ∈ l, 0 ≤ x ∧ x ≤ 9) → 0 ≤ l.sum ∧ l.sum ≤ 9 * (l.length : Int)
 | [], _ => by simp
 | x :: l, h => by
  have h1 := h x (by simp)
  have h2 := sum_range (l := l) (fun y hy => h y (by simp [hy]))
  simp only [List.sum_cons, List.length_cons]
  omega
theorem sumOf {N : Nat} {l : List Int} (hl : l.length ≤ 1000) (hv : ∀ x ∈ l, 0 ≤ x ∧ x ≤ 9) (hN : 1048576 < N) : impl_sumOf N l = some l.sum := by
 unfold impl_sumOf impl_sumOf_b
 have := loop (fun k (s : Int × Nat) => impl_sumOf_l0 N k s.1 l (l.length : Int) (s.2 : Int)) (fun s => s.2 ≤ l.length ∧ s.1 = (l.take s.2).sum) (fun s => l.length - s.2) (fun o => o = some l.sum) (fun k s hs => by
  obtain ⟨out, j⟩ := s
  obtain ⟨h1, h2⟩ := hs
  simp only at h1 h2 ⊢
  by_cases hj : j < l.length
  ·right
   have e1 : (j : Int) < (l.length : Int) := by omega
   have hx := hv _ (List.getElem_mem hj)
   have hs := sum_range (l := l.take j) (fun x hx => hv x (List.mem_of_mem_take hx))
   have hlt : ((l.take j).length : Int) ≤ 1000 := by rw [List.length_take]; omega
   refine ⟨((l.take (j + 1)).sum, j + 1), ⟨hj, rfl⟩, by simp only; omega, ?_⟩
   simp only [impl_sumOf_l0, impl_sumOf_l0_b, e1, decide_true, cond_true, inb_lt hj, grd_true, at_lt hj, w64_succ (show j < 4611686018427387904 by omega)]
   rw [w64_id (by omega) (by omega), List.take_succ_eq_append_getElem hj, List.sum_append, ← h2]
   simp
  ·left
   have : j = l.length := by omega
   subst this
   simp only [impl_sumOf_l0, impl_sumOf_l0_b, Int.lt_irrefl, decide_false, cond_false, h2, List.take_length]) N (0, 0) (by simp only; omega) ⟨by simp, by simp⟩
 exact this
def gv (d : Db) (r by_ col v x : Int) : Int := if mt d r by_ v x then vl d col x else 0
theorem gsum_gv (d : Db) (r by_ col v : Int) : ∀ l : List Int, gsum (gv d r by_ col v) l = ((l.filter (mt d r by_ v)).map (vl d col)).sum
 | [] => rfl
 | x :: l => by
  have := gsum_gv d r by_ col v l
  simp only [gsum, List.map_cons, List.sum_cons, gv] at this ⊢
  cases h : mt d r by_ v x <;> simp [h, this]
theorem rangeOf2 {N : Nat} {d : Db} {r by_ col v : Int} (h : SmallDb d) (hvb : validDb d = true) (hb : ColOk d r by_) (hc : ColOk d r col) (hN : 1048576 < N) :
  impl_rangeOf_GroupSumRange_c1 N d d r by_ v col = some (loG (gv d r by_ col v) (blocksOf d).reverse, hiG (gv d r by_ col v) (blocksOf d).reverse) := by
 have hv := validDb_of hvb
 obtain ⟨s1, s2, s3, s4⟩ := sizes_valid hvb
 have hf := hv.few
 have hne := fun b hb => (blocks_ne hvb b hb).1
 have hsz : ((blocksOf d).map List.length).sum ≤ 20 := by have : ((blocksOf d).map List.length).sum = d.2.length := s1; omega
 have hP := prod_small hvb
 have hP0 := prod_pos (blocksOf d) hne
 have nth : ∀ q : Nat, q ≤ 1000000000 → impl_nthRepair N (blocksOf d) (q : Int) = some (repOf (blocksOf d) q) := fun q hq => nthRepair (by omega) hne (fun b hb => by have := (blocks_ne hvb b hb).2; omega) hq hN
 let val : Nat → Int := fun q => gsum (gv d r by_ col v) (repOf (blocksOf d) q)
 have c1 : ∀ q : Nat, impl_GroupSumRange_c1 N (repOf (blocksOf d) q) d r by_ v col = some (val q) := fun q => by
  have hri := rep_in hvb q
  have hfi : ∀ x ∈ (repOf (blocksOf d) q).filter (mt d r by_ v), (0 ≤ x ∧ x < (d.2.length : Int)) ∧ (at_ (0, []) d.2 x).1 = r := fun x hx => by
   obtain ⟨x1, x2⟩ := List.mem_filter.1 hx
   unfold mt at x2
   rw [Bool.and_eq_true, decide_eq_true_eq] at x2
   exact ⟨hri.2 x x1, x2.1⟩
  have hfl := List.length_filter_le (mt d r by_ v) (repOf (blocksOf d) q)
  unfold impl_GroupSumRange_c1
  rw [groupOf (by omega) hri.2 hb hN, Option.bind_some, columnOf (by omega) (fun x hx => (hfi x hx).1) (fun x hx => (hfi x hx).2) hc hN, Option.bind_some,
   sumOf (by rw [List.length_map]; omega) (fun y hy => by
    obtain ⟨x, hx, rfl⟩ := List.mem_map.1 hy
    exact vl_range hv hc (hfi x hx).1.1 (hfi x hx).1.2 (hfi x hx).2) hN, Option.bind_some, ← gsum_gv]
 unfold impl_rangeOf_GroupSumRange_c1 impl_rangeOf_GroupSumRange_c1_b
 rw [implBlk h hvb hN, Option.bind_some]
 have n0 := nth 0 (by omega)
 rw [show ((0 : Nat) : Int) = 0 from rfl] at n0
 rw [n0, Option.bind_some, c1, Option.bind_some, countRepairs (by omega) hsz hN, Option.bind_some]
 obtain ⟨lo, hi, k1, k2, k3, k4⟩ := rangeLoop (P := prodL (blocksOf d)) val (fun k a b i => impl_rangeOf_GroupSumRange_c1_l0 N k d r by_ v col (blocksOf d) a b (prodL (blocksOf d) : Int) i)
  (fun k a b => by simp only [impl_rangeOf_GroupSumRange_c1_l0, impl_rangeOf_GroupSumRange_c1_l0_b, Int.lt_irrefl, decide_false, cond_false])
  (fun k a b j hj => by
   have e1 : (j : Int) < (prodL (blocksOf d) : Int) := by omega
   simp only [impl_rangeOf_GroupSumRange_c1_l0, impl_rangeOf_GroupSumRange_c1_l0_b, e1, decide_true, cond_true, nth j (by omega), Option.bind_some, c1, w64_succ (show j < 4611686018427387904 by omega)]) (k := N) (by omega) hP0
 have k1 : impl_rangeOf_GroupSumRange_c1_l0 N N d r by_ v col (blocksOf d) (val 0) (val 0) (prodL (blocksOf d) : Int) 0 = some (lo, hi) := k1
 rw [k1]
 obtain ⟨e1, e2⟩ := range_val hne (gv d r by_ col v) k2 k3 k4
 rw [e1, e2]
end Go.PL
namespace Go.PL
set_option linter.unusedVariables false
/-- The least of a row, from its first on. -/
def minL : List Int → Int
 | [] => 0
 | x :: l => l.foldl imin x
def maxL : List Int → Int
 | [] => 0
 | x :: l => l.foldl imax x
theorem least {N : Nat} {l : List Int} (hne : l ≠ []) (hl : l.length ≤ 1000) (hN : 1048576 < N) : spec_l27Least N l = some (minL l) := by
 obtain ⟨x, t, rfl⟩ := List.exists_cons_of_ne_nil hne
 unfold spec_l27Least spec_l27Least_b
 rw [show inb 0 (x :: t) = true from inb_lt (j := 0) (by simp), grd_true, show at_ 0 (x :: t) 0 = x from at_lt (j := 0) (by simp)]
 have := loop (fun k (s : Int × Nat) => spec_l27Least_l0 N k (x :: t) s.1 (s.2 : Int)) (fun s => 1 ≤ s.2 ∧ s.2 ≤ (x :: t).length ∧ s.1 = (t.take (s.2 - 1)).foldl imin x) (fun s => (x :: t).length - s.2) (fun o => o = some (minL (x :: t))) (fun k s hs => by
  obtain ⟨n, j⟩ := s
  obtain ⟨h0, h1, h2⟩ := hs
  simp only at h0 h1 h2 ⊢
  by_cases hj : j < (x :: t).length
  ·right
   have e1 : (j : Int) < ((x :: t).length : Int) := by omega
   have hjt : j - 1 < t.length := by simp only [List.length_cons] at hj; omega
   refine ⟨((t.take (j + 1 - 1)).foldl imin x, j + 1), ⟨by simp only; omega, hj, rfl⟩, by simp only; omega, ?_⟩
   simp only [spec_l27Least_l0, spec_l27Least_l0_b, e1, decide_true, cond_true, inb_lt hj, grd_true, at_lt hj, w64_succ (show j < 4611686018427387904 by omega)]
   rw [show j + 1 - 1 = (j - 1) + 1 by omega, List.take_succ_eq_append_getElem hjt, List.foldl_append, ← h2]
   have : (x :: t)[j] = t[j - 1] := by
    rw [List.getElem_cons]; rw [dif_neg (by omega)]
   rw [this]; rfl
  ·left
   have : j = (x :: t).length := by omega
   subst this
   simp only [spec_l27Least_l0, spec_l27Least_l0_b, Int.lt_irrefl, decide_false, cond_false, h2]
   simp [minL]) N (x, 1) (by simp only; omega) ⟨by simp, by simp, by simp⟩
 exact this
theorem most {N : Nat} {l : List Int} (hne : l ≠ []) (hl : l.length ≤ 1000) (hN : 1048576 < N) : spec_l27Most N l = some (maxL l) := by
 obtain ⟨x, t, rfl⟩ := List.exists_cons_of_ne_nil hne
 unfold spec_l27Most spec_l27Most_b
 rw [show inb 0 (x :: t) = true from inb_lt (j := 0) (by simp), grd_true, show at_ 0 (x :: t) 0 = x from at_lt (j := 0) (by simp)]
 have := loop (fun k (s : Int × Nat) => spec_l27Most_l0 N k (x :: t) s.1 (s.2 : Int)) (fun s => 1 ≤ s.2 ∧ s.2 ≤ (x :: t).length ∧ s.1 = (t.take (s.2 - 1)).foldl imax x) (fun s => (x :: t).length - s.2) (fun o => o = some (maxL (x :: t))) (fun k s hs => by
  obtain ⟨n, j⟩ := s
  obtain ⟨h0, h1, h2⟩ := hs
  simp only at h0 h1 h2 ⊢
  by_cases hj : j < (x :: t).length
  ·right
   have e1 : (j : Int) < ((x :: t).length : Int) := by omega
   have hjt : j - 1 < t.length := by simp only [List.length_cons] at hj; omega
   refine ⟨((t.take (j + 1 - 1)).foldl imax x, j + 1), ⟨by simp only; omega, hj, rfl⟩, by simp only; omega, ?_⟩
   simp only [spec_l27Most_l0, spec_l27Most_l0_b, e1, decide_true, cond_true, inb_lt hj, grd_true, at_lt hj, w64_succ (show j < 4611686018427387904 by omega)]
   rw [show j + 1 - 1 = (j - 1) + 1 by omega, List.take_succ_eq_append_getElem hjt, List.foldl_append, ← h2]
   have : (x :: t)[j] = t[j - 1] := by
    rw [List.getElem_cons]; rw [dif_neg (by omega)]
   rw [this]; rfl
  ·left
   have : j = (x :: t).length := by omega
   subst this
   simp only [spec_l27Most_l0, spec_l27Most_l0_b, Int.lt_irrefl, decide_false, cond_false, h2]
   simp [maxL]) N (x, 1) (by simp only; omega) ⟨by simp, by simp, by simp⟩
 exact this
theorem fold_min (g : Int → Int) : ∀ (t : List Int) (x : Int), (t.map g).foldl imin x = match t with | [] => x | y :: t' => min x (minG g (y :: t'))
 | [], x => rfl
 | [y], x => by simp only [List.map_cons, List.map_nil, List.foldl_cons, List.foldl_nil, minG]; unfold imin; split <;> omega
 | y :: z :: t, x => by
  rw [List.map_cons, List.foldl_cons, fold_min g (z :: t)]
  simp only [minG]
  have : imin x (g y) = min x (g y) := by unfold imin; split <;> omega
  rw [this]; omega
theorem minL_map (g : Int → Int) : ∀ b : List Int, b ≠ [] → minL (b.map g) = minG g b
 | [], h => absurd rfl h
 | [x], _ => rfl
 | x :: y :: t, _ => by
  simp only [List.map_cons, minL]
  rw [← List.map_cons, fold_min g (y :: t)]
  simp only [minG]
theorem fold_neg : ∀ (t : List Int) (x : Int), (t.map fun y => - y).foldl imin (- x) = - t.foldl imax x
 | [], x => rfl
 | y :: t, x => by
  simp only [List.map_cons, List.foldl_cons]
  have : imin (-x) (-y) = - imax x y := by unfold imin imax; split <;> split <;> omega
  rw [this, fold_neg t]
theorem maxL_map (g : Int → Int) (b : List Int) (hb : b ≠ []) : maxL (b.map g) = - minG (fun x => - g x) b := by
 rw [← minL_map (fun x => - g x) b hb]
 obtain ⟨x, t, rfl⟩ := List.exists_cons_of_ne_nil hb
 simp only [List.map_cons, minL, maxL]
 have := fold_neg (t.map g) (g x)
 rw [List.map_map] at this
 have e : (t.map fun x => - g x) = t.map ((fun y => - y) ∘ g) := rfl
 rw [e, this]; omega
end Go.PL
namespace Go.PL
set_option linter.unusedVariables false
theorem sum1 {N : Nat} {d : Db} {r by_ col v lo hi : Int} {L : List (List Int)} {j : Nat} (hj : j < L.length) (hb : (L[j]).length ≤ 1000) (hne : L[j] ≠ []) (hin : ∀ x ∈ L[j], 0 ≤ x ∧ x < (d.2.length : Int)) (hrel : ∀ x ∈ L[j], (at_ (0, []) d.2 x).1 = r) (hy : ColOk d r by_) (hc : ColOk d r col) (hN : 1048576 < N)
  (R : Int → Int → Int → Int → List (ByteArray × Int × Int) → List (Int × List Int) → Int → Int → List (List Int) → Int → Option (Int × Int × Bool)) :
  spec_GroupSumRange_l1 R N N r by_ col v d.1 d.2 lo hi L (j : Int) [] 0 = R r by_ col v d.1 d.2 (w64 (lo + minG (gv d r by_ col v) L[j])) (w64 (hi + - minG (fun x => - gv d r by_ col v x) L[j])) L (w64 ((j : Int) + 1)) := by
 have := loop (fun k (s : List Int × Nat) => spec_GroupSumRange_l1 R N k r by_ col v d.1 d.2 lo hi L (j : Int) s.1 (s.2 : Int)) (fun s => s.2 ≤ (L[j]).length ∧ s.1 = ((L[j]).take s.2).map (gv d r by_ col v)) (fun s => (L[j]).length - s.2) (fun o => o = R r by_ col v d.1 d.2 (w64 (lo + minG (gv d r by_ col v) L[j])) (w64 (hi + - minG (fun x => - gv d r by_ col v x) L[j])) L (w64 ((j : Int) + 1))) (fun k s hs => by
  obtain ⟨l, q⟩ := s
  obtain ⟨h1, h2⟩ := hs
  simp only at h1 h2 ⊢
  by_cases hq : q < (L[j]).length
  ·right
   have e1 : (q : Int) < ((L[j]).length : Int) := by omega
   have hm := List.getElem_mem hq
   have hx := hin _ hm
   have hlen : l.length ≤ 1000 := by rw [h2, List.length_map, List.length_take]; omega
   refine ⟨(((L[j]).take (q + 1)).map (gv d r by_ col v), q + 1), ⟨hq, rfl⟩, by simp only; omega, ?_⟩
   simp only [spec_GroupSumRange_l1, spec_GroupSumRange_l1_b, inb_lt hj, grd_true, at_lt hj, e1, decide_true, cond_true, inb_lt hq, at_lt hq, inb_int hx.1 hx.2, hc _ hx.1 hx.2 (hrel _ hm), hy _ hx.1 hx.2 (hrel _ hm), w64_succ (show q < 4611686018427387904 by omega), beqI]
   rw [List.take_succ_eq_append_getElem hq, List.map_append, ← h2]
   by_cases hv : at_ 0 (at_ (0, []) d.2 (L[j])[q]).2 by_ = v
   ·have hg : gv d r by_ col v (L[j])[q] = at_ 0 (at_ (0, []) d.2 (L[j])[q]).2 col := by
     unfold gv mt; rw [decide_eq_true (hrel _ hm), decide_eq_true hv]; rfl
    rw [decide_eq_true hv, cond_true, appOk_lt (by omega) (by simp only [List.length_singleton]; omega), grd_true, ← hg]; rfl
   ·have hg : gv d r by_ col v (L[j])[q] = 0 := by
     unfold gv mt; rw [decide_eq_false hv, Bool.and_false]; rfl
    rw [decide_eq_false hv, cond_false, appOk_lt (by omega) (by simp only [List.length_singleton]; omega), grd_true, ← hg]; rfl
  ·left
   have : q = (L[j]).length := by omega
   subst this
   rw [List.take_length] at h2
   have hne' : l ≠ [] := by rw [h2]; simpa using hne
   have hll : l.length ≤ 1000 := by rw [h2, List.length_map]; omega
   simp only [spec_GroupSumRange_l1, spec_GroupSumRange_l1_b, inb_lt hj, grd_true, at_lt hj, Int.lt_irrefl, decide_false, cond_false, least hne' hll hN, most hne' hll hN, Option.bind_some]
   rw [h2, minL_map _ _ hne, maxL_map _ _ hne]) N ([], 0) (by simp only; omega) ⟨by simp, by simp⟩
 exact this
theorem minG_range (g : Int → Int) {a c : Int} (b : List Int) (hb : b ≠ []) (h : ∀ x ∈ b, a ≤ g x ∧ g x ≤ c) : a ≤ minG g b ∧ minG g b ≤ c := by
 obtain ⟨x, h1, h2⟩ := minG_mem g b hb
 have := h x h1
 omega
theorem loG_append (g : Int → Int) (A C : List (List Int)) : loG g (A ++ C) = loG g A + loG g C := by simp [loG]
theorem loG_range (g : Int → Int) {a c : Int} : ∀ L : List (List Int), (∀ b ∈ L, b ≠ [] ∧ ∀ x ∈ b, a ≤ g x ∧ g x ≤ c) → a * (L.length : Int) ≤ loG g L ∧ loG g L ≤ c * (L.length : Int)
 | [], _ => by simp [loG]
 | b :: L, h => by
  have ih := loG_range g L (fun b hb => h b (List.mem_cons_of_mem _ hb))
  have hb := h b (by simp)
  have k := minG_range g b hb.1 hb.2
  simp only [loG, List.map_cons, List.sum_cons, List.length_cons] at ih ⊢
  have e1 : a * ((L.length + 1 : Nat) : Int) = a * (L.length : Int) + a := by rw [Int.natCast_add, Int.mul_add]; simp
  have e2 : c * ((L.length + 1 : Nat) : Int) = c * (L.length : Int) + c := by rw [Int.natCast_add, Int.mul_add]; simp
  rw [e1, e2]; omega
theorem gv_range {d : Db} (hv : ValidDb d) {r by_ col v x : Int} (hc : ColOk d r col) (h0 : 0 ≤ x) (h1 : x < (d.2.length : Int)) : 0 ≤ gv d r by_ col v x ∧ gv d r by_ col v x ≤ 9 := by
 unfold gv
 by_cases hm : mt d r by_ v x = true
 ·rw [if_pos hm]
  unfold mt at hm
  rw [Bool.and_eq_true, decide_eq_true_eq] at hm
  exact vl_range hv hc h0 h1 hm.1
 ·rw [if_neg hm]; omega
theorem gv_zero {d : Db} {r by_ col v : Int} {b : List Int} (hb : b ≠ []) (hrel : ∀ x ∈ b, (at_ (0, []) d.2 x).1 = relB d b) (hr : ¬ relB d b = r) : minG (gv d r by_ col v) b = 0 ∧ minG (fun x => - gv d r by_ col v x) b = 0 := by
 have hz : ∀ x ∈ b, gv d r by_ col v x = 0 := fun x hx => by
  unfold gv mt
  rw [decide_eq_false (fun hc => hr ((hrel x hx).symm.trans hc)), Bool.false_and]; rfl
 have k1 := minG_range (gv d r by_ col v) (a := 0) (c := 0) b hb (fun x hx => by rw [hz x hx]; omega)
 have k2 := minG_range (fun x => - gv d r by_ col v x) (a := 0) (c := 0) b hb (fun x hx => by rw [hz x hx]; omega)
 omega
theorem sum0 {N : Nat} {d : Db} {r by_ col v : Int} (hvb : validDb d = true) (hy : ColOk d r by_) (hc : ColOk d r col) (hN : 1048576 < N) :
  spec_GroupSumRange_l0 N N r by_ col v d.1 d.2 0 0 (blocksOf d) 0 = some (loG (gv d r by_ col v) (blocksOf d), hiG (gv d r by_ col v) (blocksOf d), true) := by
 obtain ⟨s1, s2, s3, s4⟩ := sizes_valid hvb
 have hvd := validDb_of hvb
 generalize hL : blocksOf d = L at *
 have hne : ∀ b ∈ L, b ≠ [] ∧ b.length ≤ 14 := fun b hb => blocks_ne hvb b (hL ▸ hb)
 have hin : ∀ b ∈ L, ∀ x ∈ b, 0 ≤ x ∧ x < (d.2.length : Int) := fun b hb => blocks_in' hvb b (hL ▸ hb)
 have hrl : ∀ b ∈ L, ∀ x ∈ b, (at_ (0, []) d.2 x).1 = relB d b := fun b hb => blocks_rel hvb b (hL ▸ hb)
 have hg : ∀ b ∈ L, b ≠ [] ∧ ∀ x ∈ b, 0 ≤ gv d r by_ col v x ∧ gv d r by_ col v x ≤ 9 := fun b hb => ⟨(hne b hb).1, fun x hx => gv_range hvd hc (hin b hb x hx).1 (hin b hb x hx).2⟩
 have hg' : ∀ b ∈ L, b ≠ [] ∧ ∀ x ∈ b, -9 ≤ - gv d r by_ col v x ∧ - gv d r by_ col v x ≤ 0 := fun b hb => ⟨(hne b hb).1, fun x hx => by have := (hg b hb).2 x hx; omega⟩
 have := loop (fun k (s : Int × Int × Nat) => spec_GroupSumRange_l0 N k r by_ col v d.1 d.2 s.1 s.2.1 L (s.2.2 : Int)) (fun s => s.2.2 ≤ L.length ∧ s.1 = loG (gv d r by_ col v) (L.take s.2.2) ∧ s.2.1 = hiG (gv d r by_ col v) (L.take s.2.2)) (fun s => L.length - s.2.2) (fun o => o = some (loG (gv d r by_ col v) L, hiG (gv d r by_ col v) L, true)) (fun k s hs => by
  obtain ⟨lo, hi, j⟩ := s
  obtain ⟨h1, h2, h3⟩ := hs
  simp only at h1 h2 h3 ⊢
  by_cases hj : j < L.length
  ·right
   have e1 : (j : Int) < (L.length : Int) := by omega
   have hm := List.getElem_mem hj
   have hpos : 0 < (L[j]).length := List.length_pos_iff.2 (hne _ hm).1
   have hb0 : at_ 0 L[j] 0 = (L[j])[0] := at_lt (j := 0) hpos
   have hx := hin _ hm _ (List.getElem_mem hpos)
   have b1 := loG_range (gv d r by_ col v) (L.take j) (fun b hb => hg b (List.mem_of_mem_take hb))
   have b2 := loG_range (fun x => - gv d r by_ col v x) (L.take j) (fun b hb => hg' b (List.mem_of_mem_take hb))
   have b3 : ((L.take j).length : Int) ≤ 14 := by rw [List.length_take]; omega
   have b4 := minG_range (gv d r by_ col v) L[j] (hne _ hm).1 (hg _ hm).2
   have b5 := minG_range (fun x => - gv d r by_ col v x) L[j] (hne _ hm).1 (hg' _ hm).2
   have b6 : hi = - loG (fun x => - gv d r by_ col v x) (L.take j) := h3
   have e2 : loG (gv d r by_ col v) (L.take (j + 1)) = lo + minG (gv d r by_ col v) L[j] := by
    rw [List.take_succ_eq_append_getElem hj, loG_append, ← h2]; simp [loG]
   have e3 : hiG (gv d r by_ col v) (L.take (j + 1)) = hi + - minG (fun x => - gv d r by_ col v x) L[j] := by
    unfold hiG
    rw [List.take_succ_eq_append_getElem hj, loG_append, b6]
    have : loG (fun x => - gv d r by_ col v x) [L[j]] = minG (fun x => - gv d r by_ col v x) L[j] := by simp [loG]
    omega
   refine ⟨(loG (gv d r by_ col v) (L.take (j + 1)), hiG (gv d r by_ col v) (L.take (j + 1)), j + 1), ⟨hj, rfl, rfl⟩, by simp only; omega, ?_⟩
   simp only [spec_GroupSumRange_l0, spec_GroupSumRange_l0_b, e1, decide_true, cond_true, inb_lt hj, grd_true, at_lt hj]
   rw [show inb 0 L[j] = true from inb_lt (j := 0) hpos, grd_true, hb0, inb_int hx.1 hx.2, grd_true, bneI, ← hb0, show (at_ (0, []) d.2 (at_ 0 L[j] 0)).1 = relB d L[j] from rfl, e2, e3]
   by_cases hr : relB d L[j] = r
   ·rw [decide_eq_true hr, Bool.not_true, cond_false, sum1 hj (by have := (hne _ hm).2; omega) (hne _ hm).1 (hin _ hm) (fun x hx => by rw [hrl _ hm x hx, hr]) hy hc hN, w64_succ (j := j) (by omega), w64_id (by omega) (by omega), w64_id (by omega) (by omega)]
   ·obtain ⟨z1, z2⟩ := gv_zero (by_ := by_) (col := col) (v := v) (hne _ hm).1 (hrl _ hm) hr
    rw [decide_eq_false hr, Bool.not_false, cond_true, w64_succ (j := j) (by omega), z1, z2]
    simp
  ·left
   have : j = L.length := by omega
   subst this
   simp only [spec_GroupSumRange_l0, spec_GroupSumRange_l0_b, Int.lt_irrefl, decide_false, cond_false, h2, h3, List.take_length]) N (0, 0, 0) (by simp only; omega) ⟨by simp, by simp [loG], by simp [hiG, loG]⟩
 exact this
theorem loG_reverse (g : Int → Int) (L : List (List Int)) : loG g L.reverse = loG g L := by unfold loG; rw [List.map_reverse, List.sum_reverse]
theorem sumRange {N : Nat} {d : Db} {r by_ col v : Int} (h : SmallDb d) (hN : 1048576 < N) : ∃ x, spec_GroupSumRange N d r by_ col v = some x ∧ impl_GroupSumRange N d r by_ col v = some x := by
 unfold spec_GroupSumRange spec_GroupSumRange_b impl_GroupSumRange
 rw [specCol h hN, specCol h hN, implCol h hN, implCol h hN]
 cases hc : isCol d r col with
 | false => cases hb : isCol d r by_ <;> exact ⟨_, rfl, rfl⟩
 | true =>
  cases hb : isCol d r by_ with
  | false => exact ⟨_, rfl, rfl⟩
  | true =>
   obtain ⟨hvb, c1⟩ := colOk hc
   obtain ⟨_, c2⟩ := colOk hb
   simp only [Option.bind_some, Bool.not_true, cond_false, specBlocks h hN, rangeOf2 h hvb c2 c1 hN, sum0 hvb c2 c1 hN]
   refine ⟨_, rfl, ?_⟩
   unfold hiG
   rw [loG_reverse, loG_reverse]
end Go.PL
namespace Go.PL
set_option linter.unusedVariables false
def cV (v : Int) (l : List Int) : Nat := (l.filter fun x => x == v).length
theorem cV_append (v : Int) (a b : List Int) : cV v (a ++ b) = cV v a + cV v b := by simp [cV]
theorem cV_le (v : Int) (a : List Int) : cV v a ≤ a.length := List.length_filter_le _ _
theorem cnt1 {N : Nat} {v lo hi : Int} {V : List (List Int)} {j : Nat} (hj : j < V.length) (hb : (V[j]).length ≤ 1000) (hN : 1048576 < N) (R : Int → Int → Int → List (List Int) → Int → Option (Int × Int × Bool)) :
  ∃ hi', spec_CountRange_l1 R N N v lo hi V (j : Int) 0 0 = R v (if cV v V[j] = (V[j]).length then w64 (lo + 1) else lo) hi' V (w64 ((j : Int) + 1)) := by
 have := loop (fun k (s : Nat × Nat) => spec_CountRange_l1 R N k v lo hi V (j : Int) (s.1 : Int) (s.2 : Int)) (fun s => s.2 ≤ (V[j]).length ∧ s.1 = cV v ((V[j]).take s.2)) (fun s => (V[j]).length - s.2) (fun o => ∃ hi', o = R v (if cV v V[j] = (V[j]).length then w64 (lo + 1) else lo) hi' V (w64 ((j : Int) + 1))) (fun k s hs => by
  obtain ⟨n, q⟩ := s
  obtain ⟨h1, h2⟩ := hs
  simp only at h1 h2 ⊢
  by_cases hq : q < (V[j]).length
  ·right
   have e1 : (q : Int) < ((V[j]).length : Int) := by omega
   have hn := cV_le v ((V[j]).take q)
   have hn2 : ((V[j]).take q).length ≤ 1000 := by rw [List.length_take]; omega
   refine ⟨(cV v ((V[j]).take (q + 1)), q + 1), ⟨hq, rfl⟩, by simp only; omega, ?_⟩
   simp only [spec_CountRange_l1, spec_CountRange_l1_b, inb_lt hj, grd_true, at_lt hj, e1, decide_true, cond_true, inb_lt hq, at_lt hq, w64_succ (show q < 4611686018427387904 by omega), beqI]
   rw [List.take_succ_eq_append_getElem hq, cV_append, ← h2]
   by_cases hv : (V[j])[q] = v
   ·rw [decide_eq_true hv, cond_true, w64_id (by omega) (by omega)]
    have : cV v [(V[j])[q]] = 1 := by simp [cV, hv]
    rw [this]; rfl
   ·rw [decide_eq_false hv, cond_false]
    have : cV v [(V[j])[q]] = 0 := by simp [cV, hv]
    rw [this]; rfl
  ·left
   have : q = (V[j]).length := by omega
   subst this
   rw [List.take_length] at h2
   have hx : (decide ((n : Int) = ((V[j]).length : Int))) = decide (cV v V[j] = (V[j]).length) := decide_eq_decide.2 (by omega)
   simp only [spec_CountRange_l1, spec_CountRange_l1_b, inb_lt hj, grd_true, at_lt hj, Int.lt_irrefl, decide_false, cond_false, beqI, hx]
   by_cases hc : cV v V[j] = (V[j]).length
   ·rw [decide_eq_true hc, if_pos hc]
    cases decide ((n : Int) > 0) <;> exact ⟨_, rfl⟩
   ·rw [decide_eq_false hc, if_neg hc]
    cases decide ((n : Int) > 0) <;> exact ⟨_, rfl⟩) N (0, 0) (by simp only; omega) ⟨by simp, by simp [cV]⟩
 exact this
def loV (v : Int) (V : List (List Int)) : Nat := (V.filter fun l => decide (cV v l = l.length)).length
theorem loV_append (v : Int) (A C : List (List Int)) : loV v (A ++ C) = loV v A + loV v C := by simp [loV]
theorem cnt0 {N : Nat} {v : Int} {V : List (List Int)} (hl : V.length ≤ 1000) (hb : ∀ l ∈ V, l.length ≤ 1000) (hN : 1048576 < N) : ∃ hi, spec_CountRange_l0 N N v 0 0 V 0 = some ((loV v V : Int), hi, true) := by
 have := loop (fun k (s : Nat × Int × Nat) => spec_CountRange_l0 N k v (s.1 : Int) s.2.1 V (s.2.2 : Int)) (fun s => s.2.2 ≤ V.length ∧ s.1 = loV v (V.take s.2.2)) (fun s => V.length - s.2.2) (fun o => ∃ hi, o = some ((loV v V : Int), hi, true)) (fun k s hs => by
  obtain ⟨lo, hi, j⟩ := s
  obtain ⟨h1, h2⟩ := hs
  simp only at h1 h2 ⊢
  by_cases hj : j < V.length
  ·right
   have e1 : (j : Int) < (V.length : Int) := by omega
   obtain ⟨hi', e2⟩ := cnt1 (v := v) (lo := (lo : Int)) (hi := hi) hj (hb _ (List.getElem_mem hj)) hN (spec_CountRange_l0 N k)
   have hlo : lo ≤ 1000 := by
    rw [h2]; unfold loV
    have := List.length_filter_le (fun l => decide (cV v l = l.length)) (V.take j)
    rw [List.length_take] at this; omega
   refine ⟨(loV v (V.take (j + 1)), hi', j + 1), ⟨hj, rfl⟩, by simp only; omega, ?_⟩
   simp only [spec_CountRange_l0, spec_CountRange_l0_b, e1, decide_true, cond_true]
   rw [e2, w64_succ (j := j) (by omega), List.take_succ_eq_append_getElem hj, loV_append, ← h2]
   by_cases hc : cV v V[j] = (V[j]).length
   ·have : loV v [V[j]] = 1 := by simp [loV, hc]
    rw [if_pos hc, w64_id (by omega) (by omega), this]; rfl
   ·have : loV v [V[j]] = 0 := by simp [loV, hc]
    rw [if_neg hc, this]; rfl
  ·left
   have : j = V.length := by omega
   subst this
   simp only [spec_CountRange_l0, spec_CountRange_l0_b, Int.lt_irrefl, decide_false, cond_false, h2, List.take_length]
   exact ⟨hi, rfl⟩) N (0, 0, 0) (by simp only; omega) ⟨by simp, by simp [loV]⟩
 exact this
theorem minG_one (p : Int → Bool) (b : List Int) (hb : b ≠ []) : minG (one p) b = if b.all p then 1 else 0 := by
 obtain ⟨x, h1, h2⟩ := minG_mem (one p) b hb
 by_cases ha : b.all p = true
 ·rw [if_pos ha, ← h2]; unfold one; rw [if_pos (List.all_eq_true.1 ha x h1)]
 ·rw [if_neg ha]
  obtain ⟨y, y1, y2⟩ : ∃ y ∈ b, ¬ p y = true := by
   apply Decidable.byContradiction
   intro hc
   apply ha
   rw [List.all_eq_true]
   intro y hy
   apply Decidable.byContradiction
   exact fun h => hc ⟨y, hy, h⟩
  have k := minG_le (one p) b y y1
  have : one p y = 0 := by unfold one; rw [if_neg y2]
  have h3 : 0 ≤ one p x := by unfold one; split <;> omega
  omega
theorem lo_eq {d : Db} (hvb : validDb d = true) (r col v : Int) : ∀ L : List (List Int), (∀ b ∈ L, b ≠ []) → (∀ b ∈ L, ∀ x ∈ b, (at_ (0, []) d.2 x).1 = relB d b) → loG (one (mt d r col v)) L = (loV v (valsOf d r col L) : Int)
 | [], _, _ => rfl
 | b :: L, h1, h2 => by
  have ih := lo_eq hvb r col v L (fun b hb => h1 b (List.mem_cons_of_mem _ hb)) (fun b hb => h2 b (List.mem_cons_of_mem _ hb))
  have e : valsOf d r col (b :: L) = valsOf d r col [b] ++ valsOf d r col L := valsOf_append d r col [b] L
  rw [e, loV_append]
  simp only [loG, List.map_cons, List.sum_cons] at ih ⊢
  rw [ih, minG_one _ _ (h1 b (by simp))]
  have key : (if b.all (mt d r col v) = true then (1 : Int) else 0) = (loV v (valsOf d r col [b]) : Int) := by
   have hb := h2 b (by simp)
   have hne := h1 b (by simp)
   by_cases hr : relB d b = r
   ·have e1 : valsOf d r col [b] = [valB d col b] := by simp [valsOf, hr]
    have e2 : (b.all (mt d r col v)) = decide (cV v (valB d col b) = (valB d col b).length) := by
     rw [Bool.eq_iff_iff, List.all_eq_true, decide_eq_true_eq]
     unfold cV
     rw [List.length_filter_eq_length_iff]
     unfold valB
     constructor
     ·intro h y hy
      obtain ⟨x, hx, rfl⟩ := List.mem_map.1 hy
      have := h x hx
      unfold mt at this
      rw [Bool.and_eq_true, decide_eq_true_eq, decide_eq_true_eq] at this
      simp [this.2]
     ·intro h x hx
      have := h _ (List.mem_map.2 ⟨x, hx, rfl⟩)
      unfold mt
      rw [Bool.and_eq_true, decide_eq_true_eq, decide_eq_true_eq]
      exact ⟨(hb x hx).trans hr, by simpa using this⟩
    rw [e1, e2]
    by_cases hc : cV v (valB d col b) = (valB d col b).length <;> simp [loV, hc]
   ·have e1 : valsOf d r col [b] = [] := by simp [valsOf, hr]
    obtain ⟨x, l, rfl⟩ := List.exists_cons_of_ne_nil hne
    have : ((x :: l).all (mt d r col v)) = false := by
     rw [Bool.eq_false_iff]
     intro hc
     have := List.all_eq_true.1 hc x (by simp)
     unfold mt at this
     rw [Bool.and_eq_true, decide_eq_true_eq] at this
     exact hr ((hb x (by simp)).symm.trans this.1)
    rw [this, e1]; rfl
  omega
theorem inAll {N : Nat} {d : Db} {r col v : Int} (h : SmallDb d) (hN : 1048576 < N) : ∃ x, spec_GroupInAllRepairs N d r col v = some x ∧ impl_GroupInAllRepairs N d r col v = some x := by
 unfold spec_GroupInAllRepairs spec_CountRange spec_CountRange_b impl_GroupInAllRepairs
 rw [specCol h hN, implCol h hN]
 cases hic : isCol d r col with
 | false => exact ⟨false, rfl, rfl⟩
 | true =>
  obtain ⟨hvb, hc⟩ := colOk hic
  obtain ⟨s1, s2, s3, s4⟩ := sizes_valid hvb
  simp only [Option.bind_some, Bool.not_true, cond_false, specVals h hvb hc hN, rangeOf1 h hvb hc hN]
  obtain ⟨hi, e⟩ := cnt0 (N := N) (v := v) (V := valsOf d r col (blocksOf d)) (by
   unfold valsOf; rw [List.length_map]
   have := List.length_filter_le (fun b => decide (relB d b = r)) (blocksOf d)
   omega) (fun l hl => by
   unfold valsOf at hl
   obtain ⟨b, hb, rfl⟩ := List.mem_map.1 hl
   have := (blocks_ne hvb b (List.mem_filter.1 hb).1).2
   unfold valB; rw [List.length_map]; omega) hN
  rw [e]
  have hlo := lo_eq hvb r col v (blocksOf d).reverse (fun b hb => (blocks_ne hvb b (List.mem_reverse.1 hb)).1) (fun b hb => blocks_rel hvb b (List.mem_reverse.1 hb))
  have hrev : loG (one (mt d r col v)) (blocksOf d).reverse = loG (one (mt d r col v)) (blocksOf d) := by unfold loG; rw [List.map_reverse, List.sum_reverse]
  have hlo2 := lo_eq hvb r col v (blocksOf d) (fun b hb => (blocks_ne hvb b hb).1) (blocks_rel hvb)
  refine ⟨_, rfl, ?_⟩
  rw [hrev, hlo2]
end Go.PL
namespace Go.PL
set_option linter.unusedVariables false
end Go.PL
namespace Go.PL
set_option linter.unusedVariables false
theorem B_flat {S : Nat → Nat → Bool} {N : Nat} (hS : Runs S N) : ∀ n, n ≤ N → (B S n).flatten = List.range n
 | 0, _ => by simp [B, sts]
 | n + 1, hn => by
  by_cases h : isSt S n = true
  ·rw [B_new hS h, List.flatten_append, B_flat hS n (by omega), List.range_succ]; simp
  ·have hn0 : 0 < n := by
    apply Decidable.byContradiction
    intro h0
    have : n = 0 := by omega
    subst this
    apply h
    rw [isSt_iff]; intro k hk; omega
   obtain ⟨A, t, e, h1, h2, h3⟩ := last_start hS (n + 1) (by omega) hn
   have e' : sts S n = A ++ [t] := by rw [sts_succ, if_neg h, List.append_nil] at e; exact e
   have ih := B_flat hS n (by omega)
   rw [B_old hS h (by omega) e' (h3 n (by omega) (by omega)), List.range_succ, ← ih]
   unfold B
   rw [e']
   simp only [List.map_append, List.map_cons, List.map_nil, List.flatten_append, List.flatten_cons, List.flatten_nil, List.append_nil, List.append_assoc]
end Go.PL
namespace Go.PL
set_option linter.unusedVariables false
end Go.PL
namespace Go.PL
set_option linter.unusedVariables false
theorem toI_flatten : ∀ L : List (List Nat), (L.map toI).flatten = toI L.flatten
 | [] => rfl
 | b :: L => by rw [List.map_cons, List.flatten_cons, List.flatten_cons, toI_append, toI_flatten L]
theorem blocks_flat {d : Db} (hvb : validDb d = true) : (blocksOf d).flatten = toI (List.range d.2.length) := by
 unfold blocksOf
 rw [if_pos hvb, toI_flatten, B_flat (runs (validDb_of hvb)) _ (Nat.le_refl _)]
end Go.PL
namespace Go.PL
set_option linter.unusedVariables false
theorem smallOf {d : Db} (h : b_Database d) : SmallDb d := ⟨h.1.1, h.2.1, fun f hf => h.2.2 f hf⟩

end Go.PL
namespace Go.PL
theorem cnt1H {N : Nat} {v lo hi : Int} {V : List (List Int)} {j : Nat} (hj : j < V.length) (hb : (V[j]).length ≤ 1000) (hN : 1048576 < N) (R : Int → Int → Int → List (List Int) → Int → Option (Int × Int × Bool)) :
  ∃ lo', spec_CountRange_l1 R N N v lo hi V (j : Int) 0 0 = R v lo' (if 0 < cV v V[j] then w64 (hi + 1) else hi) V (w64 ((j : Int) + 1)) := by
 have := loop (fun k (s : Nat × Nat) => spec_CountRange_l1 R N k v lo hi V (j : Int) (s.1 : Int) (s.2 : Int)) (fun s => s.2 ≤ (V[j]).length ∧ s.1 = cV v ((V[j]).take s.2)) (fun s => (V[j]).length - s.2) (fun o => ∃ lo', o = R v lo' (if 0 < cV v V[j] then w64 (hi + 1) else hi) V (w64 ((j : Int) + 1))) (fun k s hs => by
  obtain ⟨n, q⟩ := s
  obtain ⟨h1, h2⟩ := hs
  simp only at h1 h2 ⊢
  by_cases hq : q < (V[j]).length
  ·right
   have e1 : (q : Int) < ((V[j]).length : Int) := by omega
   have hn := cV_le v ((V[j]).take q)
   have hn2 : ((V[j]).take q).length ≤ 1000 := by rw [List.length_take]; omega
   refine ⟨(cV v ((V[j]).take (q + 1)), q + 1), ⟨hq, rfl⟩, by simp only; omega, ?_⟩
   simp only [spec_CountRange_l1, spec_CountRange_l1_b, inb_lt hj, grd_true, at_lt hj, e1, decide_true, cond_true, inb_lt hq, at_lt hq, w64_succ (show q < 4611686018427387904 by omega), beqI]
   rw [List.take_succ_eq_append_getElem hq, cV_append, ← h2]
   by_cases hv : (V[j])[q] = v
   ·rw [decide_eq_true hv, cond_true, w64_id (by omega) (by omega)]
    have : cV v [(V[j])[q]] = 1 := by simp [cV, hv]
    rw [this]; rfl
   ·rw [decide_eq_false hv, cond_false]
    have : cV v [(V[j])[q]] = 0 := by simp [cV, hv]
    rw [this]; rfl
  ·left
   have : q = (V[j]).length := by omega
   subst this
   rw [List.take_length] at h2
   simp only [spec_CountRange_l1, spec_CountRange_l1_b, inb_lt hj, grd_true, at_lt hj, Int.lt_irrefl, decide_false, cond_false, beqI]
   by_cases hc : 0 < cV v V[j]
   ·rw [decide_eq_true (show (n : Int) > 0 by omega), if_pos hc, cond_true]
    cases decide ((n : Int) = ((V[j]).length : Int)) <;> exact ⟨_, rfl⟩
   ·rw [decide_eq_false (show ¬ (n : Int) > 0 by omega), if_neg hc, cond_false]
    cases decide ((n : Int) = ((V[j]).length : Int)) <;> exact ⟨_, rfl⟩) N (0, 0) (by simp only; omega) ⟨by simp, by simp [cV]⟩
 exact this
def hiV (v : Int) (V : List (List Int)) : Nat := (V.filter fun l => decide (0 < cV v l)).length
theorem hiV_append (v : Int) (A C : List (List Int)) : hiV v (A ++ C) = hiV v A + hiV v C := by simp [hiV]
theorem cnt0H {N : Nat} {v : Int} {V : List (List Int)} (hl : V.length ≤ 1000) (hb : ∀ l ∈ V, l.length ≤ 1000) (hN : 1048576 < N) : ∃ lo, spec_CountRange_l0 N N v 0 0 V 0 = some (lo, (hiV v V : Int), true) := by
 have := loop (fun k (s : Int × Nat × Nat) => spec_CountRange_l0 N k v s.1 (s.2.1 : Int) V (s.2.2 : Int)) (fun s => s.2.2 ≤ V.length ∧ s.2.1 = hiV v (V.take s.2.2)) (fun s => V.length - s.2.2) (fun o => ∃ lo, o = some (lo, (hiV v V : Int), true)) (fun k s hs => by
  obtain ⟨lo, hi, j⟩ := s
  obtain ⟨h1, h2⟩ := hs
  simp only at h1 h2 ⊢
  by_cases hj : j < V.length
  ·right
   have e1 : (j : Int) < (V.length : Int) := by omega
   obtain ⟨lo', e2⟩ := cnt1H (v := v) (lo := lo) (hi := (hi : Int)) hj (hb _ (List.getElem_mem hj)) hN (spec_CountRange_l0 N k)
   have hlo : hi ≤ 1000 := by
    rw [h2]; unfold hiV
    have := List.length_filter_le (fun l => decide (0 < cV v l)) (V.take j)
    rw [List.length_take] at this; omega
   refine ⟨(lo', hiV v (V.take (j + 1)), j + 1), ⟨hj, rfl⟩, by simp only; omega, ?_⟩
   simp only [spec_CountRange_l0, spec_CountRange_l0_b, e1, decide_true, cond_true]
   rw [e2, w64_succ (j := j) (by omega), List.take_succ_eq_append_getElem hj, hiV_append, ← h2]
   by_cases hc : 0 < cV v V[j]
   ·have : hiV v [V[j]] = 1 := by simp [hiV, hc]
    rw [if_pos hc, w64_id (by omega) (by omega), this]; rfl
   ·have : hiV v [V[j]] = 0 := by simp [hiV, hc]
    rw [if_neg hc, this]; rfl
  ·left
   have : j = V.length := by omega
   subst this
   simp only [spec_CountRange_l0, spec_CountRange_l0_b, Int.lt_irrefl, decide_false, cond_false, h2, List.take_length]
   exact ⟨lo, rfl⟩) N (0, 0, 0) (by simp only; omega) ⟨by simp, by simp [hiV]⟩
 exact this
theorem cV_pos {v : Int} {l : List Int} : 0 < cV v l ↔ v ∈ l := by
 unfold cV
 rw [List.length_pos_iff, Ne, List.filter_eq_nil_iff]
 constructor
 ·intro h
  apply Decidable.byContradiction
  intro hv
  apply h
  intro a ha
  simp only [beq_iff_eq]
  intro e
  exact hv (e ▸ ha)
 ·intro h hn
  have := hn v h
  simp at this
/-- Has the column the value. -/
def hasV (d : Db) (r col v : Int) : Prop := ∃ x ∈ toI (List.range d.2.length), mt d r col v x = true
theorem hiV_pos {d : Db} (hvb : validDb d = true) (r col v : Int) : (hiV v (valsOf d r col (blocksOf d)) = 0) ↔ ¬ hasV d r col v := by
 have hr := blocks_rel hvb
 unfold hiV hasV
 rw [List.length_eq_zero_iff, List.filter_eq_nil_iff, ← blocks_flat hvb]
 constructor
 ·rintro h ⟨x, hx, hm⟩
  obtain ⟨b, hb, hxb⟩ := List.mem_flatten.1 hx
  unfold mt at hm
  rw [Bool.and_eq_true, decide_eq_true_eq, decide_eq_true_eq] at hm
  have := h (valB d col b) (by
   unfold valsOf
   exact List.mem_map.2 ⟨b, List.mem_filter.2 ⟨hb, by rw [decide_eq_true_eq, ← hr b hb x hxb]; exact hm.1⟩, rfl⟩)
  rw [decide_eq_true_eq, cV_pos] at this
  exact this (List.mem_map.2 ⟨x, hxb, hm.2⟩)
 ·intro h l hl
  rw [decide_eq_true_eq, cV_pos]
  intro hv
  unfold valsOf at hl
  obtain ⟨b, hb, rfl⟩ := List.mem_map.1 hl
  obtain ⟨hb1, hb2⟩ := List.mem_filter.1 hb
  obtain ⟨x, hx, e⟩ := List.mem_map.1 hv
  apply h
  refine ⟨x, List.mem_flatten.2 ⟨b, hb1, hx⟩, ?_⟩
  unfold mt
  rw [Bool.and_eq_true, decide_eq_true_eq, decide_eq_true_eq]
  exact ⟨(hr b hb1 x hx).trans (of_decide_eq_true hb2), e⟩
theorem countV0 {N : Nat} {d : Db} {r col v : Int} (h : SmallDb d) (hic : isCol d r col = true) (hN : 1048576 < N) : ∃ lo, spec_CountRange N d r col v = some (lo, (hiV v (valsOf d r col (blocksOf d)) : Int), true) := by
 obtain ⟨hvb, hc⟩ := colOk hic
 obtain ⟨s1, s2, s3, s4⟩ := sizes_valid hvb
 unfold spec_CountRange spec_CountRange_b
 rw [specCol h hN, hic]
 simp only [Option.bind_some, Bool.not_true, cond_false, specVals h hvb hc hN]
 exact cnt0H (by
  unfold valsOf; rw [List.length_map]
  have := List.length_filter_le (fun b => decide (relB d b = r)) (blocksOf d)
  omega) (fun l hl => by
  unfold valsOf at hl
  obtain ⟨b, hb, rfl⟩ := List.mem_map.1 hl
  have := (blocks_ne hvb b (List.mem_filter.1 hb).1).2
  unfold valB; rw [List.length_map]; omega) hN

def colP (d : Db) (r col x : Int) : List Int := if (at_ (0, []) d.2 x).1 = r then [at_ 0 (at_ (0, []) d.2 x).2 col] else []
def colL (d : Db) (r col : Int) : List Int := (toI (List.range d.2.length)).flatMap (colP d r col)
theorem colL_mem {d : Db} {r col v : Int} : v ∈ colL d r col ↔ hasV d r col v := by
 unfold colL hasV
 rw [List.mem_flatMap]
 constructor
 ·rintro ⟨x, hx, hv⟩
  refine ⟨x, hx, ?_⟩
  unfold colP at hv
  unfold mt
  split at hv
  ·rename_i h1
   rw [List.mem_singleton] at hv
   rw [decide_eq_true h1, decide_eq_true hv.symm]; rfl
  ·simp at hv
 ·rintro ⟨x, hx, hm⟩
  unfold mt at hm
  rw [Bool.and_eq_true, decide_eq_true_eq, decide_eq_true_eq] at hm
  refine ⟨x, hx, ?_⟩
  unfold colP
  rw [if_pos hm.1, hm.2]; simp
theorem idx_in {n : Nat} : ∀ x ∈ toI (List.range n), 0 ≤ x ∧ x < (n : Int) := by
 intro x hx
 unfold toI at hx
 obtain ⟨k, hk, rfl⟩ := List.mem_map.1 hx
 have := List.mem_range.1 hk
 omega
theorem colL_len (d : Db) (r col : Int) : (colL d r col).length ≤ d.2.length := by
 have := flatMap_len (n := 1) (a := toI (List.range d.2.length)) (piece := colP d r col) fun x _ => by unfold colP; split <;> simp
 rw [toI_length, List.length_range] at this
 unfold colL
 omega
theorem colV {N : Nat} {d : Db} {r col : Int} (hf : d.2.length ≤ 14) (hc : ColOk d r col) (hN : 1048576 < N) : impl_columnOf N d (toI (List.range d.2.length)) r col = some (colL d r col) := by
 have hin := idx_in (n := d.2.length)
 have hl : (toI (List.range d.2.length)).length ≤ 14 := by rw [toI_length, List.length_range]; exact hf
 unfold impl_columnOf impl_columnOf_b colL
 generalize toI (List.range d.2.length) = a at *
 refine collect (a := a) (colP d r col) (f := fun k out i => impl_columnOf_l0 N k r col d.1 d.2 out a (a.length : Int) i) (fun x _ => by unfold colP; split <;> simp) (fun k out => by simp [impl_columnOf_l0, impl_columnOf_l0_b]) (fun k out j hj ho => ?_) (by omega)
 have h1 : (j : Int) < (a.length : Int) := by omega
 have hx := hin _ (List.getElem_mem hj)
 simp only [impl_columnOf_l0, impl_columnOf_l0_b, h1, decide_true, cond_true, inb_lt hj, grd_true, at_lt hj, inb_int hx.1 hx.2, w64_succ (show j < 4611686018427387904 by omega), beqI]
 unfold colP
 by_cases q1 : (at_ (0, []) d.2 a[j]).1 = r
 ·rw [decide_eq_true q1, cond_true, hc _ hx.1 hx.2 q1, grd_true, if_pos q1, appOk_lt (by omega) (by simp only [List.length_singleton]; omega), grd_true]
 ·rw [decide_eq_false q1, cond_false, if_neg q1, List.append_nil]
theorem val_in {d : Db} {r col v : Int} (hic : isCol d r col = true) (h : hasV d r col v) : 0 ≤ v ∧ v ≤ 9 := by
 obtain ⟨hvb, hc⟩ := colOk hic
 obtain ⟨x, hx, hm⟩ := h
 have hx := idx_in x hx
 unfold mt at hm
 rw [Bool.and_eq_true, decide_eq_true_eq, decide_eq_true_eq] at hm
 have hi := hc x hx.1 hx.2 hm.1
 obtain ⟨k, rfl⟩ : ∃ k : Nat, x = k := ⟨x.toNat, by omega⟩
 have hk : k < d.2.length := by omega
 have hf := (validDb_of hvb).fact k hk
 rw [fact_at hk] at hm hi
 unfold fact1 at hf
 simp only [Bool.and_eq_true] at hf
 unfold inb at hi
 simp only [Bool.and_eq_true, decide_eq_true_eq] at hi
 have := List.all_eq_true.1 hf.2.2 _ (List.getElem_mem (show col.toNat < (factAt d k).2.length by omega))
 rw [← at_int (d := 0) hi.1 hi.2, hm.2, decide_eq_true_eq] at this
 exact this

def sumE (N : Nat) (d : Db) (r by_ col v : Int) : Int × Int × Bool := (spec_GroupSumRange N d r by_ col v).getD (0, 0, false)
def allE (N : Nat) (d : Db) (r by_ v : Int) : Bool := (spec_GroupInAllRepairs N d r by_ v).getD false
def entE (N : Nat) (d : Db) (r by_ col v : Int) : Int × Int × Int × Bool := (v, (sumE N d r by_ col v).1, (sumE N d r by_ col v).2.1, allE N d r by_ v)
theorem sumE_eq {N : Nat} {d : Db} (h : SmallDb d) (hN : 1048576 < N) (r by_ col v : Int) : spec_GroupSumRange N d r by_ col v = some (sumE N d r by_ col v) ∧ impl_GroupSumRange N d r by_ col v = some (sumE N d r by_ col v) := by
 obtain ⟨x, e1, e2⟩ := sumRange (r := r) (by_ := by_) (col := col) (v := v) h hN
 unfold sumE
 rw [e1, e2]
 exact ⟨rfl, rfl⟩
theorem allE_eq {N : Nat} {d : Db} (h : SmallDb d) (hN : 1048576 < N) (r by_ v : Int) : spec_GroupInAllRepairs N d r by_ v = some (allE N d r by_ v) ∧ impl_GroupInAllRepairs N d r by_ v = some (allE N d r by_ v) := by
 obtain ⟨x, e1, e2⟩ := inAll (r := r) (col := by_) (v := v) h hN
 unfold allE
 rw [e1, e2]
 exact ⟨rfl, rfl⟩
def ranges (N : Nat) (d : Db) (r by_ col : Int) : List (Int × Int × Int × Bool) × Bool := if isCol d r col && isCol d r by_ then ((setOf (colL d r by_)).map (entE N d r by_ col), true) else ([], false)
theorem setOf_ten {C : List Int} (h : ∀ x ∈ C, 0 ≤ x ∧ x ≤ 9) : setOf C = toI ((List.range 10).filter fun j => decide ((j : Int) ∈ C)) := by
 refine sorted_ext (setOf_sorted C) ?_ fun x => ?_
 ·unfold toI
  rw [List.pairwise_map]
  exact (List.Pairwise.filter _ List.pairwise_lt_range).imp fun h => by omega
 ·rw [setOf_mem]
  unfold toI
  rw [List.mem_map]
  constructor
  ·intro hx
   have := h x hx
   exact ⟨x.toNat, List.mem_filter.2 ⟨List.mem_range.2 (by omega), by rw [decide_eq_true_eq, show ((x.toNat : Nat) : Int) = x by omega]; exact hx⟩, by omega⟩
  ·rintro ⟨j, hj, rfl⟩
   exact of_decide_eq_true (List.mem_filter.1 hj).2
theorem specRanges {N : Nat} {d : Db} {r by_ col : Int} (h : SmallDb d) (hN : 1048576 < N) : spec_GroupRanges N d r by_ col = some (ranges N d r by_ col) := by
 unfold spec_GroupRanges spec_GroupRanges_b ranges
 rw [specCol h hN, specCol h hN, Option.bind_some, Option.bind_some]
 cases hc : isCol d r col with
 | false => rfl
 | true =>
  cases hb : isCol d r by_ with
  | false => rfl
  | true =>
   obtain ⟨hvb, _⟩ := colOk hb
   simp only [Bool.not_true, cond_false, Bool.and_self, if_true]
   have hC : ∀ x ∈ colL d r by_, 0 ≤ x ∧ x ≤ 9 := fun x hx => val_in hb (colL_mem.1 hx)
   rw [setOf_ten hC]
   have := loop (fun k (j : Nat) => spec_GroupRanges_l0 N k r by_ col d.1 d.2 ((toI ((List.range j).filter fun j => decide ((j : Int) ∈ colL d r by_))).map (entE N d r by_ col)) (j : Int)) (fun j => j ≤ 10) (fun j => 10 - j) (fun o => o = some ((toI ((List.range 10).filter fun j => decide ((j : Int) ∈ colL d r by_))).map (entE N d r by_ col), true)) (fun k j hj => by
    simp only [spec_GroupRanges_l0, spec_GroupRanges_l0_b]
    by_cases h9 : j ≤ 9
    ·right
     refine ⟨j + 1, by omega, by omega, ?_⟩
     have h1 : (j : Int) ≤ 9 := by omega
     obtain ⟨lo, e1⟩ := countV0 (v := (j : Int)) h hb hN
     have hlen : ((toI ((List.range j).filter fun j => decide ((j : Int) ∈ colL d r by_))).map (entE N d r by_ col)).length ≤ 10 := by
      rw [List.length_map, toI_length]
      have := List.length_filter_le (fun j : Nat => decide ((j : Int) ∈ colL d r by_)) (List.range j)
      rw [List.length_range] at this
      omega
     have e2 : spec_CountRange N (d.1, d.2) r by_ (j : Int) = some (lo, (hiV (j : Int) (valsOf d r by_ (blocksOf d)) : Int), true) := e1
     have e3 : spec_GroupSumRange N (d.1, d.2) r by_ col (j : Int) = some (sumE N d r by_ col (j : Int)) := (sumE_eq h hN r by_ col (j : Int)).1
     have e4 : spec_GroupInAllRepairs N (d.1, d.2) r by_ (j : Int) = some (allE N d r by_ (j : Int)) := (allE_eq h hN r by_ (j : Int)).1
     simp only [h1, decide_true, cond_true, e2, Option.bind_some, beqI, e3, e4, w64_succ (show j < 4611686018427387904 by omega)]
     rw [List.range_succ, List.filter_append]
     by_cases hm : (j : Int) ∈ colL d r by_
     ·have h0 : ¬ ((hiV (j : Int) (valsOf d r by_ (blocksOf d)) : Nat) : Int) = 0 := fun e => (hiV_pos hvb r by_ (j : Int)).1 (by omega) (colL_mem.1 hm)
      rw [decide_eq_false h0, cond_false, appOk_lt (by omega) (by simp only [List.length_singleton]; omega), grd_true]
      simp [hm, toI, entE]
     ·have h0 : ((hiV (j : Int) (valsOf d r by_ (blocksOf d)) : Nat) : Int) = 0 := by
       have := (hiV_pos hvb r by_ (j : Int)).2 fun e => hm (colL_mem.2 e)
       omega
      rw [decide_eq_true h0, cond_true]
      simp [hm]
    ·left
     have : j = 10 := by omega
     subst this
     have h1 : ¬ ((10 : Nat) : Int) ≤ 9 := by omega
     simp only [decide_eq_false h1, cond_false]) N 0 (by omega) (by omega)
   exact this
theorem implRanges {N : Nat} {d : Db} {r by_ col : Int} (h : SmallDb d) (hN : 1048576 < N) : impl_GroupRanges N d r by_ col = some (ranges N d r by_ col) := by
 unfold impl_GroupRanges impl_GroupRanges_b ranges
 rw [implCol h hN, implCol h hN, Option.bind_some, Option.bind_some]
 cases hb : isCol d r by_ with
 | false => rw [Bool.and_false]; rfl
 | true =>
  cases hc : isCol d r col with
  | false => rfl
  | true =>
   obtain ⟨hvb, hcb⟩ := colOk hb
   have hf := (validDb_of hvb).few
   have hl := colL_len d r by_
   have hu := setOf_len (colL d r by_)
   simp only [Bool.not_true, cond_false, Bool.and_self, if_true]
   have tail : impl_GroupRanges_l1 N N r by_ col d.1 d.2 [] (setOf (colL d r by_)) ((setOf (colL d r by_)).length : Int) 0 = some ((setOf (colL d r by_)).map (entE N d r by_ col), true) := by
    generalize setOf (colL d r by_) = u at *
    have := loop (fun k (j : Nat) => impl_GroupRanges_l1 N k r by_ col d.1 d.2 ((u.take j).map (entE N d r by_ col)) u (u.length : Int) (j : Int)) (fun j => j ≤ u.length) (fun j => u.length - j) (fun o => o = some (u.map (entE N d r by_ col), true)) (fun k j hj' => by
     simp only [impl_GroupRanges_l1, impl_GroupRanges_l1_b]
     by_cases hj : j < u.length
     ·right
      refine ⟨j + 1, hj, by omega, ?_⟩
      have h1 : (j : Int) < (u.length : Int) := by omega
      have e3 : impl_GroupSumRange N (d.1, d.2) r by_ col u[j] = some (sumE N d r by_ col u[j]) := (sumE_eq h hN r by_ col u[j]).2
      have e4 : impl_GroupInAllRepairs N (d.1, d.2) r by_ u[j] = some (allE N d r by_ u[j]) := (allE_eq h hN r by_ u[j]).2
      simp only [h1, decide_true, cond_true, inb_lt hj, grd_true, at_lt hj, e3, e4, Option.bind_some]
      rw [appOk_lt (by omega) (by simp only [List.length_map, List.length_take, List.length_singleton]; omega), grd_true, w64_succ (by omega), List.take_succ_eq_append_getElem hj, List.map_append]
      rfl
     ·left
      have h1 : ¬ (j : Int) < (u.length : Int) := by omega
      simp only [h1, decide_false, cond_false]
      rw [List.take_of_length_le (by omega)]) N 0 (by omega) (by omega)
    exact this
   have := loop (fun k (j : Nat) => impl_GroupRanges_l0 N k r by_ col d.1 d.2 (toI (List.range j)) [] (d.2.length : Int) (j : Int)) (fun j => j ≤ d.2.length) (fun j => d.2.length - j) (fun o => o = some ((setOf (colL d r by_)).map (entE N d r by_ col), true)) (fun k j hj' => by
    simp only [impl_GroupRanges_l0, impl_GroupRanges_l0_b]
    by_cases hj : j < d.2.length
    ·right
     refine ⟨j + 1, hj, by omega, ?_⟩
     have h1 : (j : Int) < (d.2.length : Int) := by omega
     simp only [h1, decide_true, cond_true]
     rw [appOk_lt (by omega) (by simp only [toI_length, List.length_range, List.length_singleton]; omega), grd_true, w64_succ (by omega), List.range_succ, toI_append]
     rfl
    ·left
     have : j = d.2.length := by omega
     subst this
     have e1 : impl_columnOf N (d.1, d.2) (toI (List.range d.2.length)) r by_ = some (colL d r by_) := colV hf hcb hN
     simp only [Int.lt_irrefl, decide_false, cond_false, e1, Option.bind_some]
     rw [unionV (by omega) (by simp) hN, Option.bind_some, List.append_nil]
     exact tail) N 0 (by omega) (by omega)
   exact this
theorem ranges_few {N : Nat} {d : Db} {r by_ col : Int} : (ranges N d r by_ col).1.length ≤ 14 := by
 unfold ranges
 split
 ·rename_i h
  rw [Bool.and_eq_true] at h
  have hf := (validDb_of (colOk h.1).1).few
  have hl := colL_len d r by_
  have hu := setOf_len (colL d r by_)
  rw [List.length_map]
  omega
 ·simp
theorem law_GroupRanges {N : Nat} (hN : 1048576 < N) {d : T_Database} {r by_ col : Int} (hd : in_Database d) : laws_FnExactGroupRanges N d r by_ col = some true := by
 unfold laws_FnExactGroupRanges
 rw [fsz_Database hd (by omega) (by omega) hN, Option.bind_some]
 by_cases h1 : (s_Database d : Int) ≤ 1048576
 case neg => rw [sub1_neg h1]; rfl
 rw [sub1_pos h1, not_neg (by omega), cond_false]
 have hb : b_Database d := b_of_Database (by omega)
 have hm := mtOk hN
 have hs := smallOf hb
 have hrl := ranges_few (N := N) (d := d) (r := r) (by_ := by_) (col := col)
 have hr : b_GroupRangeS (ranges N d r by_ col).1 := Nat.le_trans hrl (by omega)
 have hcd := c_s_Database d
 have hcr := c_s_GroupRangeS (ranges N d r by_ col).1
 have hsr : s_GroupRangeS (ranges N d r by_ col).1 ≤ 14 := hrl
 simp only [fto_Database hb hN, Option.bind_some, specRanges hs hN, implRanges hs hN, feq_GroupRangeS hr hN, feq_Database hb hN, decide_true, Bool.not_true, cond_false, beq_self_eq_true]
 rw [fmk_Database hm hb (by omega) (by omega) hN, Option.bind_some]
 simp only
 rw [not_neg (by omega), cond_false, fmk_GroupRangeS hr (by omega) (by omega) hN, Option.bind_some]
 simp only [fhd_GroupRangeS hr (show (0 : Int) ≤ 1 by omega) (by omega) hN, Option.bind_some]
 rw [not_neg (by omega)]
 simp
end Go.PL
