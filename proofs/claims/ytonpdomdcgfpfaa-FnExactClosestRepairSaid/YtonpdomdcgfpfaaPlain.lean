/- The functions read plainly, and the plain law of them. Conditions: those that stand in each theorem. -/
import GoSem.Core.View
import GoSem.Op.String

/- Words of the plain reading. Conditions: none (definitions alone). -/
namespace Go.PL

def w64 (x : Int) : Int := IntKind.i64.wrap x
def w (k : IntKind) (x : Int) : Int := k.wrap x
def grd {α : Type} (c : Bool) (x : Option α) : Option α := bif c then x else none
def grz {α : Type} (b : Int) (x : Option α) : Option α := bif decide (b = 0) then none else x
def letv {α β : Type} (v : α) (k : α → β) : β := k v
def at_ {α : Type} (d : α) (xs : List α) (i : Int) : α := xs.getD i.toNat d
def inb {α : Type} (i : Int) (xs : List α) : Bool := decide (0 ≤ i) && decide (i < (xs.length : Int))
/-- A row that grew is stored where it stood. -/
def growOk {α : Type} (i' i : Int) (xs : List α) : Bool := decide (i' = i) && (decide (0 ≤ i') && decide (i' < (xs.length : Int)))
def appOk {α : Type} (s x : List α) (b : Nat) : Bool := decide ((s.length + x.length) * b ≤ 140737488355328)
def makeOk (n : Int) (b : Nat) : Bool := decide (n = n) && (decide (0 ≤ n) && decide (n * b ≤ 140737488355328))
def byteAt (s : ByteArray) (n : Int) : Option UInt8 := if 0 ≤ n then s[n.toNat]? else none
def catOk (a b : ByteArray) : Bool := decide (a.size + b.size ≤ 140737488355328)
def seq (a b : ByteArray) : Bool := a.toList == b.toList
def slt (a b : ByteArray) : Bool := Op.bytesLess a.toList b.toList
def subOk (lo hi : Int) (n : Nat) : Bool := decide (0 ≤ lo) && (decide (lo ≤ hi) && decide (hi ≤ (n : Int)))
def sub (s : ByteArray) (lo hi : Int) : ByteArray := s.extract lo.toNat hi.toNat
def ofBytes (x : List Int) : ByteArray := ⟨(x.map fun n => UInt8.ofNat n.toNat).toArray⟩
def bits (op : BinOp) (k : IntKind) (a b : Int) : Int := match op with
 | .and => k.wrap ((BitVec.ofInt k.bits a &&& BitVec.ofInt k.bits b).toNat : Int)
 | .xor => k.wrap ((BitVec.ofInt k.bits a ^^^ BitVec.ofInt k.bits b).toNat : Int)
 | .or => k.wrap ((BitVec.ofInt k.bits a ||| BitVec.ofInt k.bits b).toNat : Int)
 | .shl => k.wrap (a * 2 ^ (min b.toNat k.bits))
 | .shr => a.fdiv (2 ^ (min b.toNat k.bits))
 | _ => 0
def imax (a b : Int) : Int := if b > a then b else a
def imin (a b : Int) : Int := if b < a then b else a
end Go.PL

/- The functions, read plainly. Conditions: none (definitions alone). -/
namespace Go.PL
set_option linter.unusedVariables false

def slices_Clone_Lint_int (N : Nat) (s : List Int) : Option (List Int) := grd (decide (s.length * 8 ≤ 140737488355328)) (some s)
def laws_szRelation (N : Nat) (a : ByteArray × Int × Int) (left_ : Int) : Option (Int) :=
 bif decide ((w64 (left_ - (a.1.size : Int))) < 0) then some (-1)
 else
 some (w64 (left_ - (a.1.size : Int)))
def laws_szRelationS_l0_b (N : Nat) (rec_ : (List (ByteArray × Int × Int)) → Int → Int → Option (Int)) (a2 : List (ByteArray × Int × Int)) (left_2 : Int) (i : Int) : Option (Int) :=
 bif decide (i < (a2.length : Int)) then
  grd (inb i a2) <|
  (laws_szRelation N ((at_ (⟨#[]⟩, (0, 0)) a2 i).1, ((at_ (⟨#[]⟩, (0, 0)) a2 i).2)) left_2).bind fun r =>
  bif decide (r < 0) then some (-1)
  else
  rec_ a2 r (w64 (i + 1))
 else
 some left_2
def laws_szRelationS_l0 (N : Nat) : Nat → (List (ByteArray × Int × Int)) → Int → Int → Option (Int)
 | 0, _, _, _ => none
 | k_ + 1, a2, left_2, i => laws_szRelationS_l0_b N (laws_szRelationS_l0 N k_) a2 left_2 i
def laws_szRelationS_b (N : Nat) (laws_szRelationS_l0S : (List (ByteArray × Int × Int)) → Int → Int → Option (Int)) (a : List (ByteArray × Int × Int)) (left_ : Int) : Option (Int) :=
 bif decide ((w64 (left_ - (a.length : Int))) < 0) then some (-1)
 else
 laws_szRelationS_l0S a (w64 (left_ - (a.length : Int))) 0
def laws_szRelationS (N : Nat) (a : List (ByteArray × Int × Int)) (left_ : Int) : Option (Int) := laws_szRelationS_b N (laws_szRelationS_l0 N N) a left_
def laws_szIntS (N : Nat) (a : List Int) (left_ : Int) : Option (Int) :=
 bif decide ((w64 (left_ - (a.length : Int))) < 0) then some (-1)
 else
 some (w64 (left_ - (a.length : Int)))
def laws_szFact (N : Nat) (a : Int × List Int) (left_ : Int) : Option (Int) :=
 (laws_szIntS N a.2 left_).bind fun r =>
 bif decide (r < 0) then some (-1)
 else
 some r
def laws_szFactS_l0_b (N : Nat) (rec_ : (List (Int × List Int)) → Int → Int → Option (Int)) (a2 : List (Int × List Int)) (left_2 : Int) (i : Int) : Option (Int) :=
 bif decide (i < (a2.length : Int)) then
  grd (inb i a2) <|
  (laws_szFact N (at_ (0, []) a2 i) left_2).bind fun r =>
  bif decide (r < 0) then some (-1)
  else
  rec_ a2 r (w64 (i + 1))
 else
 some left_2
def laws_szFactS_l0 (N : Nat) : Nat → (List (Int × List Int)) → Int → Int → Option (Int)
 | 0, _, _, _ => none
 | k_ + 1, a2, left_2, i => laws_szFactS_l0_b N (laws_szFactS_l0 N k_) a2 left_2 i
def laws_szFactS_b (N : Nat) (laws_szFactS_l0S : (List (Int × List Int)) → Int → Int → Option (Int)) (a : List (Int × List Int)) (left_ : Int) : Option (Int) :=
 bif decide ((w64 (left_ - (a.length : Int))) < 0) then some (-1)
 else
 laws_szFactS_l0S a (w64 (left_ - (a.length : Int))) 0
def laws_szFactS (N : Nat) (a : List (Int × List Int)) (left_ : Int) : Option (Int) := laws_szFactS_b N (laws_szFactS_l0 N N) a left_
def laws_szDatabase (N : Nat) (a : List (ByteArray × Int × Int) × List (Int × List Int)) (left_ : Int) : Option (Int) :=
 (laws_szRelationS N a.1 left_).bind fun r =>
 bif decide (r < 0) then some (-1)
 else
 (laws_szFactS N a.2 r).bind fun r2 =>
 bif decide (r2 < 0) then some (-1)
 else
 some r2
def laws_szDenialConstraintS (N : Nat) (a : List (Int × Int × Int × Int × Int × Int × Int)) (left_ : Int) : Option (Int) :=
 bif decide ((w64 (left_ - (a.length : Int))) < 0) then some (-1)
 else
 some (w64 (left_ - (a.length : Int)))
def laws_toRelation (N : Nat) (a : ByteArray × Int × Int) : Option (ByteArray × Int × Int) :=
 some a
def laws_toRelationS_l0_b (N : Nat) (rec_ : (List (ByteArray × Int × Int)) → (List (ByteArray × Int × Int)) → Int → Option (List (ByteArray × Int × Int))) (a2 : List (ByteArray × Int × Int)) (out : List (ByteArray × Int × Int)) (i : Int) : Option (List (ByteArray × Int × Int)) :=
 bif decide (i < (a2.length : Int)) then
  grd (inb i a2) <|
  (laws_toRelation N ((at_ (⟨#[]⟩, (0, 0)) a2 i).1, ((at_ (⟨#[]⟩, (0, 0)) a2 i).2))).bind fun r =>
  grd (inb i out) <|
  grd (inb i out) <|
  letv (out.set i.toNat r) fun u =>
  rec_ a2 u (w64 (i + 1))
 else
 some out
def laws_toRelationS_l0 (N : Nat) : Nat → (List (ByteArray × Int × Int)) → (List (ByteArray × Int × Int)) → Int → Option (List (ByteArray × Int × Int))
 | 0, _, _, _ => none
 | k_ + 1, a2, out, i => laws_toRelationS_l0_b N (laws_toRelationS_l0 N k_) a2 out i
def laws_toRelationS_b (N : Nat) (laws_toRelationS_l0S : (List (ByteArray × Int × Int)) → (List (ByteArray × Int × Int)) → Int → Option (List (ByteArray × Int × Int))) (a : List (ByteArray × Int × Int)) : Option (List (ByteArray × Int × Int)) :=
 grd (makeOk (a.length : Int) 32) <|
 laws_toRelationS_l0S a (List.replicate (a.length : Int).toNat (⟨#[]⟩, (0, 0))) 0
def laws_toRelationS (N : Nat) (a : List (ByteArray × Int × Int)) : Option (List (ByteArray × Int × Int)) := laws_toRelationS_b N (laws_toRelationS_l0 N N) a
def laws_toIntS_l0_b (N : Nat) (rec_ : (List Int) → (List Int) → Int → Option (List Int)) (a2 : List Int) (out : List Int) (i : Int) : Option (List Int) :=
 bif decide (i < (a2.length : Int)) then
  grd (inb i a2) <|
  grd (inb i out) <|
  grd (inb i out) <|
  letv (out.set i.toNat (at_ 0 a2 i)) fun u =>
  rec_ a2 u (w64 (i + 1))
 else
 some out
def laws_toIntS_l0 (N : Nat) : Nat → (List Int) → (List Int) → Int → Option (List Int)
 | 0, _, _, _ => none
 | k_ + 1, a2, out, i => laws_toIntS_l0_b N (laws_toIntS_l0 N k_) a2 out i
def laws_toIntS_b (N : Nat) (laws_toIntS_l0S : (List Int) → (List Int) → Int → Option (List Int)) (a : List Int) : Option (List Int) :=
 grd (makeOk (a.length : Int) 8) <|
 laws_toIntS_l0S a (List.replicate (a.length : Int).toNat 0) 0
def laws_toIntS (N : Nat) (a : List Int) : Option (List Int) := laws_toIntS_b N (laws_toIntS_l0 N N) a
def laws_toFact (N : Nat) (a : Int × List Int) : Option (Int × List Int) :=
 (laws_toIntS N a.2).bind fun r =>
 some (a.1, r)
def laws_toFactS_l0_b (N : Nat) (rec_ : (List (Int × List Int)) → (List (Int × List Int)) → Int → Option (List (Int × List Int))) (a2 : List (Int × List Int)) (out : List (Int × List Int)) (i : Int) : Option (List (Int × List Int)) :=
 bif decide (i < (a2.length : Int)) then
  grd (inb i a2) <|
  (laws_toFact N (at_ (0, []) a2 i)).bind fun r =>
  grd (inb i out) <|
  grd (inb i out) <|
  letv (out.set i.toNat r) fun u =>
  rec_ a2 u (w64 (i + 1))
 else
 some out
def laws_toFactS_l0 (N : Nat) : Nat → (List (Int × List Int)) → (List (Int × List Int)) → Int → Option (List (Int × List Int))
 | 0, _, _, _ => none
 | k_ + 1, a2, out, i => laws_toFactS_l0_b N (laws_toFactS_l0 N k_) a2 out i
def laws_toFactS_b (N : Nat) (laws_toFactS_l0S : (List (Int × List Int)) → (List (Int × List Int)) → Int → Option (List (Int × List Int))) (a : List (Int × List Int)) : Option (List (Int × List Int)) :=
 grd (makeOk (a.length : Int) 32) <|
 laws_toFactS_l0S a (List.replicate (a.length : Int).toNat (0, [])) 0
def laws_toFactS (N : Nat) (a : List (Int × List Int)) : Option (List (Int × List Int)) := laws_toFactS_b N (laws_toFactS_l0 N N) a
def laws_toDatabase (N : Nat) (a : List (ByteArray × Int × Int) × List (Int × List Int)) : Option (List (ByteArray × Int × Int) × List (Int × List Int)) :=
 (laws_toRelationS N a.1).bind fun r =>
 (laws_toFactS N a.2).bind fun r2 =>
 some (r, r2)
def laws_toDenialConstraint (N : Nat) (a : Int × Int × Int × Int × Int × Int × Int) : Option (Int × Int × Int × Int × Int × Int × Int) :=
 some a
def laws_toDenialConstraintS_l0_b (N : Nat) (rec_ : (List (Int × Int × Int × Int × Int × Int × Int)) → (List (Int × Int × Int × Int × Int × Int × Int)) → Int → Option (List (Int × Int × Int × Int × Int × Int × Int))) (a2 : List (Int × Int × Int × Int × Int × Int × Int)) (out : List (Int × Int × Int × Int × Int × Int × Int)) (i : Int) : Option (List (Int × Int × Int × Int × Int × Int × Int)) :=
 bif decide (i < (a2.length : Int)) then
  grd (inb i a2) <|
  (laws_toDenialConstraint N ((at_ (0, (0, (0, (0, (0, (0, 0)))))) a2 i).1, ((at_ (0, (0, (0, (0, (0, (0, 0)))))) a2 i).2).1, (((at_ (0, (0, (0, (0, (0, (0, 0)))))) a2 i).2).2).1, ((((at_ (0, (0, (0, (0, (0, (0, 0)))))) a2 i).2).2).2).1, (((((at_ (0, (0, (0, (0, (0, (0, 0)))))) a2 i).2).2).2).2).1, ((((((at_ (0, (0, (0, (0, (0, (0, 0)))))) a2 i).2).2).2).2).2))).bind fun r =>
  grd (inb i out) <|
  grd (inb i out) <|
  letv (out.set i.toNat r) fun u =>
  rec_ a2 u (w64 (i + 1))
 else
 some out
def laws_toDenialConstraintS_l0 (N : Nat) : Nat → (List (Int × Int × Int × Int × Int × Int × Int)) → (List (Int × Int × Int × Int × Int × Int × Int)) → Int → Option (List (Int × Int × Int × Int × Int × Int × Int))
 | 0, _, _, _ => none
 | k_ + 1, a2, out, i => laws_toDenialConstraintS_l0_b N (laws_toDenialConstraintS_l0 N k_) a2 out i
def laws_toDenialConstraintS_b (N : Nat) (laws_toDenialConstraintS_l0S : (List (Int × Int × Int × Int × Int × Int × Int)) → (List (Int × Int × Int × Int × Int × Int × Int)) → Int → Option (List (Int × Int × Int × Int × Int × Int × Int))) (a : List (Int × Int × Int × Int × Int × Int × Int)) : Option (List (Int × Int × Int × Int × Int × Int × Int)) :=
 grd (makeOk (a.length : Int) 56) <|
 laws_toDenialConstraintS_l0S a (List.replicate (a.length : Int).toNat (0, (0, (0, (0, (0, (0, 0))))))) 0
def laws_toDenialConstraintS (N : Nat) (a : List (Int × Int × Int × Int × Int × Int × Int)) : Option (List (Int × Int × Int × Int × Int × Int × Int)) := laws_toDenialConstraintS_b N (laws_toDenialConstraintS_l0 N N) a
def spec_l1In (N : Nat) (x : Int) (low : Int) (high : Int) : Option (Bool) :=
 bif decide (x ≥ low) then some (decide (x ≤ high))
 else
 some false
def spec_IsValidRelation (N : Nat) (s : ByteArray × Int × Int) : Option (Bool) :=
 bif ((s.1.size : Int) == 1) then
  (byteAt s.1 0).bind fun b =>
  bif decide ((b.toNat : Int) ≥ 97) then
   (byteAt s.1 0).bind fun b2 =>
   bif decide ((b2.toNat : Int) ≤ 122) then
    (spec_l1In N s.2.1 1 3).bind fun r =>
    bif r then
     (spec_l1In N s.2.2 0 s.2.1).bind fun r2 =>
     some r2
    else
    some false
   else
   some false
  else
  some false
 else
 some false
def spec_AreValidRelations_l0_b (N : Nat) (rec_ : (List (ByteArray × Int × Int)) → Int → Option (Bool)) (l2 : List (ByteArray × Int × Int)) (i : Int) : Option (Bool) :=
 bif decide (i < (l2.length : Int)) then
  grd (inb i l2) <|
  (spec_IsValidRelation N ((at_ (⟨#[]⟩, (0, 0)) l2 i).1, ((at_ (⟨#[]⟩, (0, 0)) l2 i).2))).bind fun r =>
  bif (!r) then some false
  else
  bif decide (i > 0) then
   grd (inb (w64 (i - 1)) l2) <|
   grd (inb i l2) <|
   bif (!slt ((at_ (⟨#[]⟩, (0, 0)) l2 (w64 (i - 1))).1) ((at_ (⟨#[]⟩, (0, 0)) l2 i).1)) then some false
   else
   rec_ l2 (w64 (i + 1))
  else
  rec_ l2 (w64 (i + 1))
 else
 some (decide ((l2.length : Int) ≤ 4))
def spec_AreValidRelations_l0 (N : Nat) : Nat → (List (ByteArray × Int × Int)) → Int → Option (Bool)
 | 0, _, _ => none
 | k_ + 1, l2, i => spec_AreValidRelations_l0_b N (spec_AreValidRelations_l0 N k_) l2 i
def spec_AreValidRelations_b (N : Nat) (spec_AreValidRelations_l0S : (List (ByteArray × Int × Int)) → Int → Option (Bool)) (l : List (ByteArray × Int × Int)) : Option (Bool) :=
 spec_AreValidRelations_l0S l 0
def spec_AreValidRelations (N : Nat) (l : List (ByteArray × Int × Int)) : Option (Bool) := spec_AreValidRelations_b N (spec_AreValidRelations_l0 N N) l
def spec_IsValidFact_l0_b (N : Nat) (rec_ : Int → (List Int) → Int → Option (Bool)) (f2 : Int) (f3 : List Int) (i : Int) : Option (Bool) :=
 bif decide (i < (f3.length : Int)) then
  grd (inb i f3) <|
  (spec_l1In N (at_ 0 f3 i) 0 9).bind fun r3 =>
  bif (!r3) then some false
  else
  rec_ f2 f3 (w64 (i + 1))
 else
 some true
def spec_IsValidFact_l0 (N : Nat) : Nat → Int → (List Int) → Int → Option (Bool)
 | 0, _, _, _ => none
 | k_ + 1, f2, f3, i => spec_IsValidFact_l0_b N (spec_IsValidFact_l0 N k_) f2 f3 i
def spec_IsValidFact_b (N : Nat) (spec_IsValidFact_l0S : Int → (List Int) → Int → Option (Bool)) (l : List (ByteArray × Int × Int)) (f : Int × List Int) : Option (Bool) :=
 (spec_AreValidRelations N l).bind fun r =>
 bif (!r) then some false
 else
 (spec_l1In N f.1 0 (w64 ((l.length : Int) - 1))).bind fun r2 =>
 bif (!r2) then some false
 else
 grd (inb f.1 l) <|
 bif ((f.2.length : Int) != (((at_ (⟨#[]⟩, (0, 0)) l f.1).2).1)) then some false
 else
 spec_IsValidFact_l0S f.1 f.2 0
def spec_IsValidFact (N : Nat) (l : List (ByteArray × Int × Int)) (f : Int × List Int) : Option (Bool) := spec_IsValidFact_b N (spec_IsValidFact_l0 N N) l f
def spec_l3Ints_l0_b (N : Nat) (rec_ : (List Int) → (List Int) → Int → Option (Int)) (a2 : List Int) (b2 : List Int) (i : Int) : Option (Int) :=
 bif decide (i < (a2.length : Int)) then
  bif decide (i < (b2.length : Int)) then
   grd (inb i a2) <|
   grd (inb i b2) <|
   bif decide ((at_ 0 a2 i) < (at_ 0 b2 i)) then some (-1)
   else
   grd (inb i a2) <|
   grd (inb i b2) <|
   bif decide ((at_ 0 a2 i) > (at_ 0 b2 i)) then some 1
   else
   rec_ a2 b2 (w64 (i + 1))
  else
  bif decide ((a2.length : Int) < (b2.length : Int)) then some (-1)
  else
  bif decide ((a2.length : Int) > (b2.length : Int)) then some 1
  else
  some 0
 else
 bif decide ((a2.length : Int) < (b2.length : Int)) then some (-1)
 else
 bif decide ((a2.length : Int) > (b2.length : Int)) then some 1
 else
 some 0
def spec_l3Ints_l0 (N : Nat) : Nat → (List Int) → (List Int) → Int → Option (Int)
 | 0, _, _, _ => none
 | k_ + 1, a2, b2, i => spec_l3Ints_l0_b N (spec_l3Ints_l0 N k_) a2 b2 i
def spec_l3Ints_b (N : Nat) (spec_l3Ints_l0S : (List Int) → (List Int) → Int → Option (Int)) (a : List Int) (b : List Int) : Option (Int) :=
 spec_l3Ints_l0S a b 0
def spec_l3Ints (N : Nat) (a : List Int) (b : List Int) : Option (Int) := spec_l3Ints_b N (spec_l3Ints_l0 N N) a b
def spec_CompareFacts (N : Nat) (a : Int × List Int) (b : Int × List Int) : Option (Int) :=
 bif decide (a.1 < b.1) then some (-1)
 else
 bif decide (a.1 > b.1) then some 1
 else
 (spec_l3Ints N a.2 b.2).bind fun r =>
 some r
def spec_IsValidDatabase_l0_b (N : Nat) (rec_ : (List (ByteArray × Int × Int)) → (List (Int × List Int)) → Int → Option (Bool)) (d2 : List (ByteArray × Int × Int)) (d3 : List (Int × List Int)) (i : Int) : Option (Bool) :=
 bif decide (i < (d3.length : Int)) then
  grd (inb i d3) <|
  (spec_IsValidFact N d2 (at_ (0, []) d3 i)).bind fun r =>
  bif (!r) then some false
  else
  bif decide (i > 0) then
   grd (inb (w64 (i - 1)) d3) <|
   grd (inb i d3) <|
   (spec_CompareFacts N (at_ (0, []) d3 (w64 (i - 1))) (at_ (0, []) d3 i)).bind fun r2 =>
   bif decide (r2 ≥ 0) then some false
   else
   rec_ d2 d3 (w64 (i + 1))
  else
  rec_ d2 d3 (w64 (i + 1))
 else
 (spec_AreValidRelations N d2).bind fun r3 =>
 bif r3 then some (decide ((d3.length : Int) ≤ 14))
 else
 some false
def spec_IsValidDatabase_l0 (N : Nat) : Nat → (List (ByteArray × Int × Int)) → (List (Int × List Int)) → Int → Option (Bool)
 | 0, _, _, _ => none
 | k_ + 1, d2, d3, i => spec_IsValidDatabase_l0_b N (spec_IsValidDatabase_l0 N k_) d2 d3 i
def spec_IsValidDatabase_b (N : Nat) (spec_IsValidDatabase_l0S : (List (ByteArray × Int × Int)) → (List (Int × List Int)) → Int → Option (Bool)) (d : List (ByteArray × Int × Int) × List (Int × List Int)) : Option (Bool) :=
 spec_IsValidDatabase_l0S d.1 d.2 0
def spec_IsValidDatabase (N : Nat) (d : List (ByteArray × Int × Int) × List (Int × List Int)) : Option (Bool) := spec_IsValidDatabase_b N (spec_IsValidDatabase_l0 N N) d
def spec_KeyOf (N : Nat) (l : List (ByteArray × Int × Int)) (f : Int × List Int) : Option (List Int) :=
 (spec_IsValidFact N l f).bind fun r =>
 bif (!r) then some []
 else
 grd (inb f.1 l) <|
 grd (subOk 0 (((at_ (⟨#[]⟩, (0, 0)) l f.1).2).2) f.2.length) <|
 grd (appOk [] (f.2.take (((at_ (⟨#[]⟩, (0, 0)) l f.1).2).2).toNat) 8) <|
 some (f.2.take (((at_ (⟨#[]⟩, (0, 0)) l f.1).2).2).toNat)
def spec_HaveSameKey (N : Nat) (l : List (ByteArray × Int × Int)) (a : Int × List Int) (b : Int × List Int) : Option (Bool) :=
 (spec_IsValidFact N l a).bind fun r =>
 bif r then
  (spec_IsValidFact N l b).bind fun r2 =>
  bif r2 then
   bif (a.1 == b.1) then
    (spec_KeyOf N l a).bind fun r3 =>
    (spec_KeyOf N l b).bind fun r4 =>
    (spec_l3Ints N r3 r4).bind fun r5 =>
    some (r5 == 0)
   else
   some false
  else
  some false
 else
 some false
def spec_IsValidConstraint (N : Nat) (d : List (ByteArray × Int × Int) × List (Int × List Int)) (x : Int × Int × Int × Int × Int × Int × Int) : Option (Bool) :=
 (spec_IsValidDatabase N d).bind fun r =>
 bif (!r) then some false
 else
 (spec_l1In N x.1 0 (w64 ((d.1.length : Int) - 1))).bind fun r2 =>
 bif (!r2) then some false
 else
 (spec_l1In N x.2.1 0 (w64 ((d.1.length : Int) - 1))).bind fun r3 =>
 bif (!r3) then some false
 else
 grd (inb x.1 d.1) <|
 grd (inb x.2.1 d.1) <|
 (spec_l1In N x.2.2.1 0 (w64 ((((at_ (⟨#[]⟩, (0, 0)) d.1 x.1).2).1) - 1))).bind fun r4 =>
 bif r4 then
  (spec_l1In N x.2.2.2.2.1 0 (w64 ((((at_ (⟨#[]⟩, (0, 0)) d.1 x.1).2).1) - 1))).bind fun r5 =>
  bif r5 then
   (spec_l1In N x.2.2.2.1 0 (w64 ((((at_ (⟨#[]⟩, (0, 0)) d.1 x.2.1).2).1) - 1))).bind fun r6 =>
   bif r6 then
    (spec_l1In N x.2.2.2.2.2.1 0 (w64 ((((at_ (⟨#[]⟩, (0, 0)) d.1 x.2.1).2).1) - 1))).bind fun r7 =>
    bif r7 then
     (spec_l1In N x.2.2.2.2.2.2 1 2).bind fun r8 =>
     some r8
    else
    some false
   else
   some false
  else
  some false
 else
 some false
def spec_ViolatesConstraint (N : Nat) (d : List (ByteArray × Int × Int) × List (Int × List Int)) (x : Int × Int × Int × Int × Int × Int × Int) (i : Int) (k : Int) : Option (Bool) :=
 (spec_IsValidConstraint N d x).bind fun r =>
 bif (!r) then some false
 else
 (spec_l1In N i 0 (w64 ((d.2.length : Int) - 1))).bind fun r2 =>
 bif (!r2) then some false
 else
 (spec_l1In N k 0 (w64 ((d.2.length : Int) - 1))).bind fun r3 =>
 bif (!r3) then some false
 else
 bif (i == k) then some false
 else
 grd (inb i d.2) <|
 grd (inb k d.2) <|
 bif (((at_ (0, []) d.2 i).1) != x.1) then some false
 else
 bif (((at_ (0, []) d.2 k).1) != x.2.1) then some false
 else
 grd (inb x.2.2.1 ((at_ (0, []) d.2 i).2)) <|
 grd (inb x.2.2.2.1 ((at_ (0, []) d.2 k).2)) <|
 bif ((at_ 0 ((at_ (0, []) d.2 i).2) x.2.2.1) != (at_ 0 ((at_ (0, []) d.2 k).2) x.2.2.2.1)) then some false
 else
 bif (x.2.2.2.2.2.2 == 1) then
  grd (inb x.2.2.2.2.1 ((at_ (0, []) d.2 i).2)) <|
  grd (inb x.2.2.2.2.2.1 ((at_ (0, []) d.2 k).2)) <|
  some ((at_ 0 ((at_ (0, []) d.2 i).2) x.2.2.2.2.1) == (at_ 0 ((at_ (0, []) d.2 k).2) x.2.2.2.2.2.1))
 else
 grd (inb x.2.2.2.2.1 ((at_ (0, []) d.2 i).2)) <|
 grd (inb x.2.2.2.2.2.1 ((at_ (0, []) d.2 k).2)) <|
 some (decide ((at_ 0 ((at_ (0, []) d.2 i).2) x.2.2.2.2.1) < (at_ 0 ((at_ (0, []) d.2 k).2) x.2.2.2.2.2.1)))
def spec_ConflictEdges_l2_b (N : Nat) (spec_ConflictEdges_l1R : (List (Int × Int × Int × Int × Int × Int × Int)) → (List (ByteArray × Int × Int)) → (List (Int × List Int)) → (List (Int × Int)) → Int → Int → Option (List (Int × Int))) (rec_ : (List (Int × Int × Int × Int × Int × Int × Int)) → (List (ByteArray × Int × Int)) → (List (Int × List Int)) → (List (Int × Int)) → Int → Int → Bool → Int → Option (List (Int × Int))) (l4 : List (Int × Int × Int × Int × Int × Int × Int)) (d6 : List (ByteArray × Int × Int)) (d7 : List (Int × List Int)) (out3 : List (Int × Int)) (i3 : Int) (k2 : Int) (is_ : Bool) (n : Int) : Option (List (Int × Int)) :=
 bif decide (n < (l4.length : Int)) then
  bif is_ then rec_ l4 d6 d7 out3 i3 k2 true (w64 (n + 1))
  else
  grd (inb n l4) <|
  (spec_ViolatesConstraint N (d6, d7) ((at_ (0, (0, (0, (0, (0, (0, 0)))))) l4 n).1, ((at_ (0, (0, (0, (0, (0, (0, 0)))))) l4 n).2).1, (((at_ (0, (0, (0, (0, (0, (0, 0)))))) l4 n).2).2).1, ((((at_ (0, (0, (0, (0, (0, (0, 0)))))) l4 n).2).2).2).1, (((((at_ (0, (0, (0, (0, (0, (0, 0)))))) l4 n).2).2).2).2).1, ((((((at_ (0, (0, (0, (0, (0, (0, 0)))))) l4 n).2).2).2).2).2)) i3 k2).bind fun r3 =>
  bif r3 then rec_ l4 d6 d7 out3 i3 k2 true (w64 (n + 1))
  else
  grd (inb n l4) <|
  (spec_ViolatesConstraint N (d6, d7) ((at_ (0, (0, (0, (0, (0, (0, 0)))))) l4 n).1, ((at_ (0, (0, (0, (0, (0, (0, 0)))))) l4 n).2).1, (((at_ (0, (0, (0, (0, (0, (0, 0)))))) l4 n).2).2).1, ((((at_ (0, (0, (0, (0, (0, (0, 0)))))) l4 n).2).2).2).1, (((((at_ (0, (0, (0, (0, (0, (0, 0)))))) l4 n).2).2).2).2).1, ((((((at_ (0, (0, (0, (0, (0, (0, 0)))))) l4 n).2).2).2).2).2)) k2 i3).bind fun r4 =>
  rec_ l4 d6 d7 out3 i3 k2 r4 (w64 (n + 1))
 else
 bif is_ then
  grd (appOk out3 [(i3, k2)] 16) <|
  spec_ConflictEdges_l1R l4 d6 d7 (out3 ++ [(i3, k2)]) i3 (w64 (k2 + 1))
 else
 spec_ConflictEdges_l1R l4 d6 d7 out3 i3 (w64 (k2 + 1))
def spec_ConflictEdges_l2 (spec_ConflictEdges_l1R : (List (Int × Int × Int × Int × Int × Int × Int)) → (List (ByteArray × Int × Int)) → (List (Int × List Int)) → (List (Int × Int)) → Int → Int → Option (List (Int × Int))) (N : Nat) : Nat → (List (Int × Int × Int × Int × Int × Int × Int)) → (List (ByteArray × Int × Int)) → (List (Int × List Int)) → (List (Int × Int)) → Int → Int → Bool → Int → Option (List (Int × Int))
 | 0, _, _, _, _, _, _, _, _ => none
 | k_ + 1, l4, d6, d7, out3, i3, k2, is_, n => spec_ConflictEdges_l2_b N spec_ConflictEdges_l1R (spec_ConflictEdges_l2 spec_ConflictEdges_l1R N k_) l4 d6 d7 out3 i3 k2 is_ n
def spec_ConflictEdges_l1_b (N : Nat) (spec_ConflictEdges_l0R : (List (Int × Int × Int × Int × Int × Int × Int)) → (List (ByteArray × Int × Int)) → (List (Int × List Int)) → (List (Int × Int)) → Int → Option (List (Int × Int))) (spec_ConflictEdges_l2S : (List (Int × Int × Int × Int × Int × Int × Int)) → (List (ByteArray × Int × Int)) → (List (Int × List Int)) → (List (Int × Int)) → Int → Int → Bool → Int → Option (List (Int × Int))) (rec_ : (List (Int × Int × Int × Int × Int × Int × Int)) → (List (ByteArray × Int × Int)) → (List (Int × List Int)) → (List (Int × Int)) → Int → Int → Option (List (Int × Int))) (l3 : List (Int × Int × Int × Int × Int × Int × Int)) (d4 : List (ByteArray × Int × Int)) (d5 : List (Int × List Int)) (out2 : List (Int × Int)) (i2 : Int) (k : Int) : Option (List (Int × Int)) :=
 bif decide (k < (d5.length : Int)) then
  grd (inb i2 d5) <|
  grd (inb k d5) <|
  (spec_HaveSameKey N d4 (at_ (0, []) d5 i2) (at_ (0, []) d5 k)).bind fun r2 =>
  spec_ConflictEdges_l2S l3 d4 d5 out2 i2 k r2 0
 else
 spec_ConflictEdges_l0R l3 d4 d5 out2 (w64 (i2 + 1))
def spec_ConflictEdges_l1 (spec_ConflictEdges_l0R : (List (Int × Int × Int × Int × Int × Int × Int)) → (List (ByteArray × Int × Int)) → (List (Int × List Int)) → (List (Int × Int)) → Int → Option (List (Int × Int))) (N : Nat) : Nat → (List (Int × Int × Int × Int × Int × Int × Int)) → (List (ByteArray × Int × Int)) → (List (Int × List Int)) → (List (Int × Int)) → Int → Int → Option (List (Int × Int))
 | 0, _, _, _, _, _, _ => none
 | k_ + 1, l3, d4, d5, out2, i2, k => spec_ConflictEdges_l1_b N spec_ConflictEdges_l0R (spec_ConflictEdges_l2 (spec_ConflictEdges_l1 spec_ConflictEdges_l0R N k_) N N) (spec_ConflictEdges_l1 spec_ConflictEdges_l0R N k_) l3 d4 d5 out2 i2 k
def spec_ConflictEdges_l0_b (N : Nat) (spec_ConflictEdges_l1S : (List (Int × Int × Int × Int × Int × Int × Int)) → (List (ByteArray × Int × Int)) → (List (Int × List Int)) → (List (Int × Int)) → Int → Int → Option (List (Int × Int))) (rec_ : (List (Int × Int × Int × Int × Int × Int × Int)) → (List (ByteArray × Int × Int)) → (List (Int × List Int)) → (List (Int × Int)) → Int → Option (List (Int × Int))) (l2 : List (Int × Int × Int × Int × Int × Int × Int)) (d2 : List (ByteArray × Int × Int)) (d3 : List (Int × List Int)) (out : List (Int × Int)) (i : Int) : Option (List (Int × Int)) :=
 bif decide (i < (d3.length : Int)) then
  (spec_IsValidDatabase N (d2, d3)).bind fun r =>
  bif r then spec_ConflictEdges_l1S l2 d2 d3 out i (w64 (i + 1))
  else
  some out
 else
 some out
def spec_ConflictEdges_l0 (N : Nat) : Nat → (List (Int × Int × Int × Int × Int × Int × Int)) → (List (ByteArray × Int × Int)) → (List (Int × List Int)) → (List (Int × Int)) → Int → Option (List (Int × Int))
 | 0, _, _, _, _, _ => none
 | k_ + 1, l2, d2, d3, out, i => spec_ConflictEdges_l0_b N (spec_ConflictEdges_l1 (spec_ConflictEdges_l0 N k_) N N) (spec_ConflictEdges_l0 N k_) l2 d2 d3 out i
def spec_ConflictEdges_b (N : Nat) (spec_ConflictEdges_l0S : (List (Int × Int × Int × Int × Int × Int × Int)) → (List (ByteArray × Int × Int)) → (List (Int × List Int)) → (List (Int × Int)) → Int → Option (List (Int × Int))) (d : List (ByteArray × Int × Int) × List (Int × List Int)) (l : List (Int × Int × Int × Int × Int × Int × Int)) : Option (List (Int × Int)) :=
 spec_ConflictEdges_l0S l d.1 d.2 [] 0
def spec_ConflictEdges (N : Nat) (d : List (ByteArray × Int × Int) × List (Int × List Int)) (l : List (Int × Int × Int × Int × Int × Int × Int)) : Option (List (Int × Int)) := spec_ConflictEdges_b N (spec_ConflictEdges_l0 N N) d l
def spec_AreValidEdges_l0_b (N : Nat) (rec_ : Int → (List (Int × Int)) → Int → Option (Bool)) (n2 : Int) (l2 : List (Int × Int)) (i : Int) : Option (Bool) :=
 bif decide (i < (l2.length : Int)) then
  grd (inb i l2) <|
  grd (inb i l2) <|
  (spec_l1In N ((at_ (0, 0) l2 i).1) 0 (w64 (((at_ (0, 0) l2 i).2) - 1))).bind fun r =>
  bif (!r) then some false
  else
  grd (inb i l2) <|
  (spec_l1In N ((at_ (0, 0) l2 i).2) 0 (w64 (n2 - 1))).bind fun r2 =>
  bif (!r2) then some false
  else
  bif decide (i > 0) then
   grd (inb i l2) <|
   grd (inb (w64 (i - 1)) l2) <|
   bif decide (((at_ (0, 0) l2 i).1) < ((at_ (0, 0) l2 (w64 (i - 1))).1)) then some false
   else
   grd (inb i l2) <|
   grd (inb (w64 (i - 1)) l2) <|
   bif (((at_ (0, 0) l2 i).1) == ((at_ (0, 0) l2 (w64 (i - 1))).1)) then
    grd (inb i l2) <|
    grd (inb (w64 (i - 1)) l2) <|
    bif decide (((at_ (0, 0) l2 i).2) ≤ ((at_ (0, 0) l2 (w64 (i - 1))).2)) then some false
    else
    rec_ n2 l2 (w64 (i + 1))
   else
   rec_ n2 l2 (w64 (i + 1))
  else
  rec_ n2 l2 (w64 (i + 1))
 else
 (spec_l1In N n2 0 14).bind fun r3 =>
 some r3
def spec_AreValidEdges_l0 (N : Nat) : Nat → Int → (List (Int × Int)) → Int → Option (Bool)
 | 0, _, _, _ => none
 | k_ + 1, n2, l2, i => spec_AreValidEdges_l0_b N (spec_AreValidEdges_l0 N k_) n2 l2 i
def spec_AreValidEdges_b (N : Nat) (spec_AreValidEdges_l0S : Int → (List (Int × Int)) → Int → Option (Bool)) (n : Int) (l : List (Int × Int)) : Option (Bool) :=
 spec_AreValidEdges_l0S n l 0
def spec_AreValidEdges (N : Nat) (n : Int) (l : List (Int × Int)) : Option (Bool) := spec_AreValidEdges_b N (spec_AreValidEdges_l0 N N) n l
def spec_l8Set_l0_b (N : Nat) (rec_ : Int → (List Int) → Int → Option (Bool)) (n2 : Int) (s2 : List Int) (i : Int) : Option (Bool) :=
 bif decide (i < (s2.length : Int)) then
  grd (inb i s2) <|
  (spec_l1In N (at_ 0 s2 i) 0 (w64 (n2 - 1))).bind fun r =>
  bif (!r) then some false
  else
  bif decide (i > 0) then
   grd (inb i s2) <|
   grd (inb (w64 (i - 1)) s2) <|
   bif decide ((at_ 0 s2 i) ≤ (at_ 0 s2 (w64 (i - 1)))) then some false
   else
   rec_ n2 s2 (w64 (i + 1))
  else
  rec_ n2 s2 (w64 (i + 1))
 else
 some true
def spec_l8Set_l0 (N : Nat) : Nat → Int → (List Int) → Int → Option (Bool)
 | 0, _, _, _ => none
 | k_ + 1, n2, s2, i => spec_l8Set_l0_b N (spec_l8Set_l0 N k_) n2 s2 i
def spec_l8Set_b (N : Nat) (spec_l8Set_l0S : Int → (List Int) → Int → Option (Bool)) (n : Int) (s : List Int) : Option (Bool) :=
 spec_l8Set_l0S n s 0
def spec_l8Set (N : Nat) (n : Int) (s : List Int) : Option (Bool) := spec_l8Set_b N (spec_l8Set_l0 N N) n s
def spec_l7Has_l0_b (N : Nat) (rec_ : (List Int) → Int → Int → Option (Bool)) (l2 : List Int) (x2 : Int) (i : Int) : Option (Bool) :=
 bif decide (i < (l2.length : Int)) then
  grd (inb i l2) <|
  bif ((at_ 0 l2 i) == x2) then some true
  else
  rec_ l2 x2 (w64 (i + 1))
 else
 some false
def spec_l7Has_l0 (N : Nat) : Nat → (List Int) → Int → Int → Option (Bool)
 | 0, _, _, _ => none
 | k_ + 1, l2, x2, i => spec_l7Has_l0_b N (spec_l7Has_l0 N k_) l2 x2 i
def spec_l7Has_b (N : Nat) (spec_l7Has_l0S : (List Int) → Int → Int → Option (Bool)) (l : List Int) (x : Int) : Option (Bool) :=
 spec_l7Has_l0S l x 0
def spec_l7Has (N : Nat) (l : List Int) (x : Int) : Option (Bool) := spec_l7Has_b N (spec_l7Has_l0 N N) l x
def spec_IsIndependent_l0_b (N : Nat) (rec_ : (List (Int × Int)) → (List Int) → Int → Option (Bool)) (l2 : List (Int × Int)) (s2 : List Int) (i : Int) : Option (Bool) :=
 bif decide (i < (l2.length : Int)) then
  grd (inb i l2) <|
  (spec_l7Has N s2 ((at_ (0, 0) l2 i).1)).bind fun r =>
  bif r then
   grd (inb i l2) <|
   (spec_l7Has N s2 ((at_ (0, 0) l2 i).2)).bind fun r2 =>
   bif r2 then some false
   else
   rec_ l2 s2 (w64 (i + 1))
  else
  rec_ l2 s2 (w64 (i + 1))
 else
 some true
def spec_IsIndependent_l0 (N : Nat) : Nat → (List (Int × Int)) → (List Int) → Int → Option (Bool)
 | 0, _, _, _ => none
 | k_ + 1, l2, s2, i => spec_IsIndependent_l0_b N (spec_IsIndependent_l0 N k_) l2 s2 i
def spec_IsIndependent_b (N : Nat) (spec_IsIndependent_l0S : (List (Int × Int)) → (List Int) → Int → Option (Bool)) (l : List (Int × Int)) (s : List Int) : Option (Bool) :=
 spec_IsIndependent_l0S l s 0
def spec_IsIndependent (N : Nat) (l : List (Int × Int)) (s : List Int) : Option (Bool) := spec_IsIndependent_b N (spec_IsIndependent_l0 N N) l s
def spec_l8Fits (N : Nat) (l : List (Int × Int)) (s : List Int) (x : Int) : Option (Bool) :=
 (spec_l7Has N s x).bind fun r =>
 bif (!r) then
  grd (appOk [] s 8) <|
  grd (appOk s [x] 8) <|
  (spec_IsIndependent N l (s ++ [x])).bind fun r2 =>
  some r2
 else
 some false
def spec_IsMaximalIndependent_l0_b (N : Nat) (rec_ : Int → (List (Int × Int)) → (List Int) → Int → Option (Bool)) (n2 : Int) (l2 : List (Int × Int)) (s2 : List Int) (x : Int) : Option (Bool) :=
 bif decide (x < n2) then
  (spec_l8Fits N l2 s2 x).bind fun r4 =>
  bif r4 then some false
  else
  rec_ n2 l2 s2 (w64 (x + 1))
 else
 some true
def spec_IsMaximalIndependent_l0 (N : Nat) : Nat → Int → (List (Int × Int)) → (List Int) → Int → Option (Bool)
 | 0, _, _, _, _ => none
 | k_ + 1, n2, l2, s2, x => spec_IsMaximalIndependent_l0_b N (spec_IsMaximalIndependent_l0 N k_) n2 l2 s2 x
def spec_IsMaximalIndependent_b (N : Nat) (spec_IsMaximalIndependent_l0S : Int → (List (Int × Int)) → (List Int) → Int → Option (Bool)) (n : Int) (l : List (Int × Int)) (s : List Int) : Option (Bool) :=
 (spec_AreValidEdges N n l).bind fun r =>
 bif (!r) then some false
 else
 (spec_l8Set N n s).bind fun r2 =>
 bif (!r2) then some false
 else
 (spec_IsIndependent N l s).bind fun r3 =>
 bif (!r3) then some false
 else
 spec_IsMaximalIndependent_l0S n l s 0
def spec_IsMaximalIndependent (N : Nat) (n : Int) (l : List (Int × Int)) (s : List Int) : Option (Bool) := spec_IsMaximalIndependent_b N (spec_IsMaximalIndependent_l0 N N) n l s
def spec_l8Walk_l0_b (N : Nat) (Rf : Int → (List (Int × Int)) → (List Int) → Int → Option (List (List Int))) (rec_ : Int → (List (Int × Int)) → (List Int) → Int → (List (List Int)) → Bool → Int → Option (List (List Int))) (n2 : Int) (l2 : List (Int × Int)) (s2 : List Int) (x2 : Int) (out : List (List Int)) (met : Bool) (i : Int) : Option (List (List Int)) :=
 bif decide (i < (l2.length : Int)) then
  bif met then rec_ n2 l2 s2 x2 out true (w64 (i + 1))
  else
  grd (inb i l2) <|
  bif (((at_ (0, 0) l2 i).1) == x2) then rec_ n2 l2 s2 x2 out true (w64 (i + 1))
  else
  grd (inb i l2) <|
  rec_ n2 l2 s2 x2 out (((at_ (0, 0) l2 i).2) == x2) (w64 (i + 1))
 else
 bif met then
  (Rf n2 l2 s2 (w64 (x2 + 1))).bind fun r4 =>
  grd (appOk out r4 24) <|
  some (out ++ r4)
 else
 some out
def spec_l8Walk_l0 (N : Nat) (Rf : Int → (List (Int × Int)) → (List Int) → Int → Option (List (List Int))) : Nat → Int → (List (Int × Int)) → (List Int) → Int → (List (List Int)) → Bool → Int → Option (List (List Int))
 | 0, _, _, _, _, _, _, _ => none
 | k_ + 1, n2, l2, s2, x2, out, met, i => spec_l8Walk_l0_b N Rf (spec_l8Walk_l0 N Rf k_) n2 l2 s2 x2 out met i
def spec_l8Walk_b (N : Nat) (Rf : Int → (List (Int × Int)) → (List Int) → Int → Option (List (List Int))) (spec_l8Walk_l0S : Int → (List (Int × Int)) → (List Int) → Int → (List (List Int)) → Bool → Int → Option (List (List Int))) (n : Int) (l : List (Int × Int)) (s : List Int) (x : Int) : Option (List (List Int)) :=
 bif (x == n) then
  (spec_IsMaximalIndependent N n l s).bind fun r =>
  bif r then
   grd (appOk [] s 8) <|
   some [s]
  else
  some []
 else
 (spec_l8Fits N l s x).bind fun r2 =>
 bif r2 then
  grd (appOk [] s 8) <|
  grd (appOk s [x] 8) <|
  (Rf n l (s ++ [x]) (w64 (x + 1))).bind fun r3 =>
  spec_l8Walk_l0S n l s x r3 false 0
 else
 spec_l8Walk_l0S n l s x [] false 0
def spec_l8Walk_r (N : Nat) : Nat → Int → (List (Int × Int)) → (List Int) → Int → Option (List (List Int))
 | 0, _, _, _, _ => none
 | k_ + 1, n, l, s, x => spec_l8Walk_b N (spec_l8Walk_r N k_) (spec_l8Walk_l0 N (spec_l8Walk_r N k_) N) n l s x
def spec_l8Walk (N : Nat) (n : Int) (l : List (Int × Int)) (s : List Int) (x : Int) : Option (List (List Int)) := spec_l8Walk_r N N n l s x
def spec_MaximalIndependentSets (N : Nat) (n : Int) (l : List (Int × Int)) : Option (List (List Int)) :=
 (spec_AreValidEdges N n l).bind fun r =>
 bif (!r) then some []
 else
 (spec_l8Walk N n l [] 0).bind fun r2 =>
 some r2
def spec_SubsetRepairs (N : Nat) (d : List (ByteArray × Int × Int) × List (Int × List Int)) (l : List (Int × Int × Int × Int × Int × Int × Int)) : Option (List (List Int)) :=
 (spec_IsValidDatabase N d).bind fun r =>
 bif (!r) then some []
 else
 (spec_ConflictEdges N d l).bind fun r2 =>
 (spec_MaximalIndependentSets N (d.2.length : Int) r2).bind fun r3 =>
 some r3
def spec_l4Set_l0_b (N : Nat) (rec_ : (List Int) → (List (ByteArray × Int × Int)) → (List (Int × List Int)) → Int → Option (Bool)) (l2 : List Int) (d2 : List (ByteArray × Int × Int)) (d3 : List (Int × List Int)) (i : Int) : Option (Bool) :=
 bif decide (i < (l2.length : Int)) then
  grd (inb i l2) <|
  (spec_l1In N (at_ 0 l2 i) 0 (w64 ((d3.length : Int) - 1))).bind fun r =>
  bif (!r) then some false
  else
  bif decide (i > 0) then
   grd (inb i l2) <|
   grd (inb (w64 (i - 1)) l2) <|
   bif decide ((at_ 0 l2 i) ≤ (at_ 0 l2 (w64 (i - 1)))) then some false
   else
   rec_ l2 d2 d3 (w64 (i + 1))
  else
  rec_ l2 d2 d3 (w64 (i + 1))
 else
 some true
def spec_l4Set_l0 (N : Nat) : Nat → (List Int) → (List (ByteArray × Int × Int)) → (List (Int × List Int)) → Int → Option (Bool)
 | 0, _, _, _, _ => none
 | k_ + 1, l2, d2, d3, i => spec_l4Set_l0_b N (spec_l4Set_l0 N k_) l2 d2 d3 i
def spec_l4Set_b (N : Nat) (spec_l4Set_l0S : (List Int) → (List (ByteArray × Int × Int)) → (List (Int × List Int)) → Int → Option (Bool)) (d : List (ByteArray × Int × Int) × List (Int × List Int)) (l : List Int) : Option (Bool) :=
 spec_l4Set_l0S l d.1 d.2 0
def spec_l4Set (N : Nat) (d : List (ByteArray × Int × Int) × List (Int × List Int)) (l : List Int) : Option (Bool) := spec_l4Set_b N (spec_l4Set_l0 N N) d l
def spec_ClosestRepair_l1_b (N : Nat) (spec_ClosestRepair_l0R : (List Int) → (List (ByteArray × Int × Int)) → (List (Int × List Int)) → Int → (List Int) → (List (List Int)) → Int → Option (List Int × Bool)) (rec_ : (List Int) → (List (ByteArray × Int × Int)) → (List (Int × List Int)) → Int → (List Int) → (List (List Int)) → Int → Int → Int → Option (List Int × Bool)) (s3 : List Int) (d4 : List (ByteArray × Int × Int)) (d5 : List (Int × List Int)) (best2 : Int) (out2 : List Int) (all2 : List (List Int)) (i2 : Int) (n : Int) (k : Int) : Option (List Int × Bool) :=
 bif decide (k < (s3.length : Int)) then
  grd (inb i2 all2) <|
  grd (inb k s3) <|
  (spec_l7Has N (at_ [] all2 i2) (at_ 0 s3 k)).bind fun r3 =>
  bif r3 then rec_ s3 d4 d5 best2 out2 all2 i2 (w64 (n + 1)) (w64 (k + 1))
  else
  rec_ s3 d4 d5 best2 out2 all2 i2 n (w64 (k + 1))
 else
 bif decide (n > best2) then
  grd (inb i2 all2) <|
  grd (appOk [] (at_ [] all2 i2) 8) <|
  spec_ClosestRepair_l0R s3 d4 d5 n (at_ [] all2 i2) all2 (w64 (i2 + 1))
 else
 spec_ClosestRepair_l0R s3 d4 d5 best2 out2 all2 (w64 (i2 + 1))
def spec_ClosestRepair_l1 (spec_ClosestRepair_l0R : (List Int) → (List (ByteArray × Int × Int)) → (List (Int × List Int)) → Int → (List Int) → (List (List Int)) → Int → Option (List Int × Bool)) (N : Nat) : Nat → (List Int) → (List (ByteArray × Int × Int)) → (List (Int × List Int)) → Int → (List Int) → (List (List Int)) → Int → Int → Int → Option (List Int × Bool)
 | 0, _, _, _, _, _, _, _, _, _ => none
 | k_ + 1, s3, d4, d5, best2, out2, all2, i2, n, k => spec_ClosestRepair_l1_b N spec_ClosestRepair_l0R (spec_ClosestRepair_l1 spec_ClosestRepair_l0R N k_) s3 d4 d5 best2 out2 all2 i2 n k
def spec_ClosestRepair_l0_b (N : Nat) (spec_ClosestRepair_l1S : (List Int) → (List (ByteArray × Int × Int)) → (List (Int × List Int)) → Int → (List Int) → (List (List Int)) → Int → Int → Int → Option (List Int × Bool)) (rec_ : (List Int) → (List (ByteArray × Int × Int)) → (List (Int × List Int)) → Int → (List Int) → (List (List Int)) → Int → Option (List Int × Bool)) (s2 : List Int) (d2 : List (ByteArray × Int × Int)) (d3 : List (Int × List Int)) (best : Int) (out : List Int) (all : List (List Int)) (i : Int) : Option (List Int × Bool) :=
 bif decide (i < (all.length : Int)) then
  (spec_l4Set N (d2, d3) s2).bind fun r2 =>
  bif r2 then spec_ClosestRepair_l1S s2 d2 d3 best out all i 0 0
  else
  some (out, decide (best ≥ 0))
 else
 some (out, decide (best ≥ 0))
def spec_ClosestRepair_l0 (N : Nat) : Nat → (List Int) → (List (ByteArray × Int × Int)) → (List (Int × List Int)) → Int → (List Int) → (List (List Int)) → Int → Option (List Int × Bool)
 | 0, _, _, _, _, _, _, _ => none
 | k_ + 1, s2, d2, d3, best, out, all, i => spec_ClosestRepair_l0_b N (spec_ClosestRepair_l1 (spec_ClosestRepair_l0 N k_) N N) (spec_ClosestRepair_l0 N k_) s2 d2 d3 best out all i
def spec_ClosestRepair_b (N : Nat) (spec_ClosestRepair_l0S : (List Int) → (List (ByteArray × Int × Int)) → (List (Int × List Int)) → Int → (List Int) → (List (List Int)) → Int → Option (List Int × Bool)) (d : List (ByteArray × Int × Int) × List (Int × List Int)) (l : List (Int × Int × Int × Int × Int × Int × Int)) (s : List Int) : Option (List Int × Bool) :=
 (spec_SubsetRepairs N d l).bind fun r =>
 spec_ClosestRepair_l0S s d.1 d.2 (-1) [] r 0
def spec_ClosestRepair (N : Nat) (d : List (ByteArray × Int × Int) × List (Int × List Int)) (l : List (Int × Int × Int × Int × Int × Int × Int)) (s : List Int) : Option (List Int × Bool) := spec_ClosestRepair_b N (spec_ClosestRepair_l0 N N) d l s
def impl_within (N : Nat) (n : Int) (low : Int) (high : Int) : Option (Bool) :=
 bif decide (low ≤ n) then some (decide (n ≤ high))
 else
 some false
def impl_IsValidRelation (N : Nat) (relation : ByteArray × Int × Int) : Option (Bool) :=
 bif ((relation.1.size : Int) == 1) then
  (byteAt relation.1 0).bind fun b =>
  bif decide ((b.toNat : Int) ≥ 97) then
   (byteAt relation.1 0).bind fun b2 =>
   bif decide ((b2.toNat : Int) ≤ 122) then
    (impl_within N relation.2.1 1 3).bind fun r =>
    bif r then
     (impl_within N relation.2.2 0 relation.2.1).bind fun r2 =>
     some r2
    else
    some false
   else
   some false
  else
  some false
 else
 some false
def impl_AreValidRelations_l0_b (N : Nat) (rec_ : (List (ByteArray × Int × Int)) → (List (ByteArray × Int × Int)) → Int → Int → Option (Bool)) (relations2 : List (ByteArray × Int × Int)) (t5 : List (ByteArray × Int × Int)) (t6 : Int) (t7 : Int) : Option (Bool) :=
 bif decide (t7 < t6) then
  grd (inb t7 t5) <|
  (impl_IsValidRelation N ((at_ (⟨#[]⟩, (0, 0)) t5 t7).1, ((at_ (⟨#[]⟩, (0, 0)) t5 t7).2))).bind fun r =>
  bif (!r) then some false
  else
  bif decide (t7 > 0) then
   grd (inb (w64 (t7 - 1)) relations2) <|
   bif (!slt ((at_ (⟨#[]⟩, (0, 0)) relations2 (w64 (t7 - 1))).1) ((at_ (⟨#[]⟩, (0, 0)) t5 t7).1)) then some false
   else
   rec_ relations2 t5 t6 (w64 (t7 + 1))
  else
  rec_ relations2 t5 t6 (w64 (t7 + 1))
 else
 some (decide ((relations2.length : Int) ≤ 4))
def impl_AreValidRelations_l0 (N : Nat) : Nat → (List (ByteArray × Int × Int)) → (List (ByteArray × Int × Int)) → Int → Int → Option (Bool)
 | 0, _, _, _, _ => none
 | k_ + 1, relations2, t5, t6, t7 => impl_AreValidRelations_l0_b N (impl_AreValidRelations_l0 N k_) relations2 t5 t6 t7
def impl_AreValidRelations_b (N : Nat) (impl_AreValidRelations_l0S : (List (ByteArray × Int × Int)) → (List (ByteArray × Int × Int)) → Int → Int → Option (Bool)) (relations : List (ByteArray × Int × Int)) : Option (Bool) :=
 impl_AreValidRelations_l0S relations relations (relations.length : Int) 0
def impl_AreValidRelations (N : Nat) (relations : List (ByteArray × Int × Int)) : Option (Bool) := impl_AreValidRelations_b N (impl_AreValidRelations_l0 N N) relations
def impl_areValues_c1 (N : Nat) (v : Int) : Option (Bool) :=
 (impl_within N v 0 9).bind fun r =>
 some (!r)
def slices_IndexFunc_Lint_int_areValues_c1_l0_b (N : Nat) (rec_ : (List Int) → Int → Int → Option (Int)) (s2 : List Int) (t7 : Int) (t8 : Int) : Option (Int) :=
 bif decide (t8 < t7) then
  grd (inb t8 s2) <|
  (impl_areValues_c1 N (at_ 0 s2 t8)).bind fun r =>
  bif r then some t8
  else
  rec_ s2 t7 (w64 (t8 + 1))
 else
 some (-1)
def slices_IndexFunc_Lint_int_areValues_c1_l0 (N : Nat) : Nat → (List Int) → Int → Int → Option (Int)
 | 0, _, _, _ => none
 | k_ + 1, s2, t7, t8 => slices_IndexFunc_Lint_int_areValues_c1_l0_b N (slices_IndexFunc_Lint_int_areValues_c1_l0 N k_) s2 t7 t8
def slices_IndexFunc_Lint_int_areValues_c1_b (N : Nat) (slices_IndexFunc_Lint_int_areValues_c1_l0S : (List Int) → Int → Int → Option (Int)) (s : List Int) : Option (Int) :=
 slices_IndexFunc_Lint_int_areValues_c1_l0S s (s.length : Int) 0
def slices_IndexFunc_Lint_int_areValues_c1 (N : Nat) (s : List Int) : Option (Int) := slices_IndexFunc_Lint_int_areValues_c1_b N (slices_IndexFunc_Lint_int_areValues_c1_l0 N N) s
def slices_ContainsFunc_Lint_int_areValues_c1 (N : Nat) (s : List Int) : Option (Bool) :=
 (slices_IndexFunc_Lint_int_areValues_c1 N s).bind fun r =>
 some (decide (r ≥ 0))
def impl_areValues (N : Nat) (list : List Int) : Option (Bool) :=
 (slices_ContainsFunc_Lint_int_areValues_c1 N list).bind fun r =>
 some (!r)
def impl_isFact (N : Nat) (relations : List (ByteArray × Int × Int)) (fact : Int × List Int) : Option (Bool) :=
 (impl_within N fact.1 0 (w64 ((relations.length : Int) - 1))).bind fun r =>
 bif r then
  grd (inb fact.1 relations) <|
  bif ((fact.2.length : Int) == (((at_ (⟨#[]⟩, (0, 0)) relations fact.1).2).1)) then
   (impl_areValues N fact.2).bind fun r2 =>
   some r2
  else
  some false
 else
 some false
def impl_compare (N : Nat) (a : Int) (b : Int) : Option (Int) :=
 bif decide (a < b) then some (-1)
 else
 bif decide (a > b) then some 1
 else
 some 0
def cmp_isNaN_int (N : Nat) (x : Int) : Option (Bool) :=
 some (x != x)
def cmp_Compare_int (N : Nat) (x : Int) (y : Int) : Option (Int) :=
 (cmp_isNaN_int N x).bind fun r =>
 (cmp_isNaN_int N y).bind fun r2 =>
 bif r then
  bif r2 then some 0
  else
  some (-1)
 else
 bif r2 then some 1
 else
 bif decide (x < y) then some (-1)
 else
 bif decide (x > y) then some 1
 else
 some 0
def slices_Compare_Lint_int_l0_b (N : Nat) (rec_ : (List Int) → (List Int) → (List Int) → Int → Int → Option (Int)) (s12 : List Int) (s22 : List Int) (t9 : List Int) (t10 : Int) (t11 : Int) : Option (Int) :=
 bif decide (t11 < t10) then
  grd (inb t11 t9) <|
  bif decide (t11 ≥ (s22.length : Int)) then some 1
  else
  grd (inb t11 s22) <|
  (cmp_Compare_int N (at_ 0 t9 t11) (at_ 0 s22 t11)).bind fun r =>
  bif (r != 0) then some r
  else
  rec_ s12 s22 t9 t10 (w64 (t11 + 1))
 else
 bif decide ((s12.length : Int) < (s22.length : Int)) then some (-1)
 else
 some 0
def slices_Compare_Lint_int_l0 (N : Nat) : Nat → (List Int) → (List Int) → (List Int) → Int → Int → Option (Int)
 | 0, _, _, _, _, _ => none
 | k_ + 1, s12, s22, t9, t10, t11 => slices_Compare_Lint_int_l0_b N (slices_Compare_Lint_int_l0 N k_) s12 s22 t9 t10 t11
def slices_Compare_Lint_int_b (N : Nat) (slices_Compare_Lint_int_l0S : (List Int) → (List Int) → (List Int) → Int → Int → Option (Int)) (s1 : List Int) (s2 : List Int) : Option (Int) :=
 slices_Compare_Lint_int_l0S s1 s2 s1 (s1.length : Int) 0
def slices_Compare_Lint_int (N : Nat) (s1 : List Int) (s2 : List Int) : Option (Int) := slices_Compare_Lint_int_b N (slices_Compare_Lint_int_l0 N N) s1 s2
def impl_CompareFacts (N : Nat) (a : Int × List Int) (b : Int × List Int) : Option (Int) :=
 bif (a.1 != b.1) then
  (impl_compare N a.1 b.1).bind fun r =>
  some r
 else
 (slices_Compare_Lint_int N a.2 b.2).bind fun r2 =>
 some r2
def impl_IsValidDatabase_l0_b (N : Nat) (rec_ : (List (ByteArray × Int × Int)) → (List (Int × List Int)) → (List (Int × List Int)) → Int → Int → Option (Bool)) (db2 : List (ByteArray × Int × Int)) (db3 : List (Int × List Int)) (t16 : List (Int × List Int)) (t17 : Int) (t18 : Int) : Option (Bool) :=
 bif decide (t18 < t17) then
  grd (inb t18 t16) <|
  (impl_isFact N db2 (at_ (0, []) t16 t18)).bind fun r2 =>
  bif (!r2) then some false
  else
  bif decide (t18 > 0) then
   grd (inb (w64 (t18 - 1)) db3) <|
   (impl_CompareFacts N (at_ (0, []) db3 (w64 (t18 - 1))) (at_ (0, []) t16 t18)).bind fun r3 =>
   bif decide (r3 ≥ 0) then some false
   else
   rec_ db2 db3 t16 t17 (w64 (t18 + 1))
  else
  rec_ db2 db3 t16 t17 (w64 (t18 + 1))
 else
 some true
def impl_IsValidDatabase_l0 (N : Nat) : Nat → (List (ByteArray × Int × Int)) → (List (Int × List Int)) → (List (Int × List Int)) → Int → Int → Option (Bool)
 | 0, _, _, _, _, _ => none
 | k_ + 1, db2, db3, t16, t17, t18 => impl_IsValidDatabase_l0_b N (impl_IsValidDatabase_l0 N k_) db2 db3 t16 t17 t18
def impl_IsValidDatabase_b (N : Nat) (impl_IsValidDatabase_l0S : (List (ByteArray × Int × Int)) → (List (Int × List Int)) → (List (Int × List Int)) → Int → Int → Option (Bool)) (db : List (ByteArray × Int × Int) × List (Int × List Int)) : Option (Bool) :=
 (impl_AreValidRelations N db.1).bind fun r =>
 bif (!r) then some false
 else
 bif decide ((db.2.length : Int) > 14) then some false
 else
 impl_IsValidDatabase_l0S db.1 db.2 db.2 (db.2.length : Int) 0
def impl_IsValidDatabase (N : Nat) (db : List (ByteArray × Int × Int) × List (Int × List Int)) : Option (Bool) := impl_IsValidDatabase_b N (impl_IsValidDatabase_l0 N N) db
def impl_areIndices_l0_b (N : Nat) (rec_ : (List Int) → Int → (List Int) → Int → Int → Option (Bool)) (indices2 : List Int) (n2 : Int) (t7 : List Int) (t8 : Int) (t9 : Int) : Option (Bool) :=
 bif decide (t9 < t8) then
  grd (inb t9 t7) <|
  (impl_within N (at_ 0 t7 t9) 0 (w64 (n2 - 1))).bind fun r =>
  bif (!r) then some false
  else
  bif decide (t9 > 0) then
   grd (inb (w64 (t9 - 1)) indices2) <|
   bif decide ((at_ 0 indices2 (w64 (t9 - 1))) ≥ (at_ 0 t7 t9)) then some false
   else
   rec_ indices2 n2 t7 t8 (w64 (t9 + 1))
  else
  rec_ indices2 n2 t7 t8 (w64 (t9 + 1))
 else
 some true
def impl_areIndices_l0 (N : Nat) : Nat → (List Int) → Int → (List Int) → Int → Int → Option (Bool)
 | 0, _, _, _, _, _ => none
 | k_ + 1, indices2, n2, t7, t8, t9 => impl_areIndices_l0_b N (impl_areIndices_l0 N k_) indices2 n2 t7 t8 t9
def impl_areIndices_b (N : Nat) (impl_areIndices_l0S : (List Int) → Int → (List Int) → Int → Int → Option (Bool)) (indices : List Int) (n : Int) : Option (Bool) :=
 impl_areIndices_l0S indices n indices (indices.length : Int) 0
def impl_areIndices (N : Nat) (indices : List Int) (n : Int) : Option (Bool) := impl_areIndices_b N (impl_areIndices_l0 N N) indices n
def impl_IsValidConstraint (N : Nat) (db : List (ByteArray × Int × Int) × List (Int × List Int)) (constraint : Int × Int × Int × Int × Int × Int × Int) : Option (Bool) :=
 (impl_IsValidDatabase N db).bind fun r =>
 bif (!r) then some false
 else
 (impl_within N constraint.1 0 (w64 ((db.1.length : Int) - 1))).bind fun r2 =>
 bif (!r2) then some false
 else
 (impl_within N constraint.2.1 0 (w64 ((db.1.length : Int) - 1))).bind fun r3 =>
 bif (!r3) then some false
 else
 grd (inb constraint.1 db.1) <|
 grd (inb constraint.2.1 db.1) <|
 (impl_within N constraint.2.2.1 0 (w64 ((((at_ (⟨#[]⟩, (0, 0)) db.1 constraint.1).2).1) - 1))).bind fun r4 =>
 bif r4 then
  (impl_within N constraint.2.2.2.2.1 0 (w64 ((((at_ (⟨#[]⟩, (0, 0)) db.1 constraint.1).2).1) - 1))).bind fun r5 =>
  bif r5 then
   (impl_within N constraint.2.2.2.1 0 (w64 ((((at_ (⟨#[]⟩, (0, 0)) db.1 constraint.2.1).2).1) - 1))).bind fun r6 =>
   bif r6 then
    (impl_within N constraint.2.2.2.2.2.1 0 (w64 ((((at_ (⟨#[]⟩, (0, 0)) db.1 constraint.2.1).2).1) - 1))).bind fun r7 =>
    bif r7 then
     (impl_within N constraint.2.2.2.2.2.2 1 2).bind fun r8 =>
     some r8
    else
    some false
   else
   some false
  else
  some false
 else
 some false
def impl_violates (N : Nat) (c : Int × Int × Int × Int × Int × Int × Int) (a : Int × List Int) (b : Int × List Int) : Option (Bool) :=
 bif (a.1 != c.1) then some false
 else
 bif (b.1 != c.2.1) then some false
 else
 grd (inb c.2.2.1 a.2) <|
 grd (inb c.2.2.2.1 b.2) <|
 bif ((at_ 0 a.2 c.2.2.1) != (at_ 0 b.2 c.2.2.2.1)) then some false
 else
 grd (inb c.2.2.2.2.1 a.2) <|
 grd (inb c.2.2.2.2.2.1 b.2) <|
 bif (c.2.2.2.2.2.2 == 1) then
  bif ((at_ 0 a.2 c.2.2.2.2.1) == (at_ 0 b.2 c.2.2.2.2.2.1)) then some true
  else
  bif (c.2.2.2.2.2.2 == 2) then
   some (decide ((at_ 0 a.2 c.2.2.2.2.1) < (at_ 0 b.2 c.2.2.2.2.2.1)))
  else
  some false
 else
 bif (c.2.2.2.2.2.2 == 2) then
  some (decide ((at_ 0 a.2 c.2.2.2.2.1) < (at_ 0 b.2 c.2.2.2.2.2.1)))
 else
 some false
def impl_ViolatesConstraint (N : Nat) (db : List (ByteArray × Int × Int) × List (Int × List Int)) (constraint : Int × Int × Int × Int × Int × Int × Int) (first : Int) (second : Int) : Option (Bool) :=
 (impl_IsValidConstraint N db constraint).bind fun r =>
 bif r then
  bif (first != second) then
   (impl_within N first 0 (w64 ((db.2.length : Int) - 1))).bind fun r2 =>
   bif r2 then
    (impl_within N second 0 (w64 ((db.2.length : Int) - 1))).bind fun r3 =>
    bif r3 then
     grd (inb first db.2) <|
     grd (inb second db.2) <|
     (impl_violates N constraint (at_ (0, []) db.2 first) (at_ (0, []) db.2 second)).bind fun r4 =>
     some r4
    else
    some false
   else
   some false
  else
  some false
 else
 some false
def slices_Equal_Lint_int_l0_b (N : Nat) (rec_ : (List Int) → (List Int) → Int → Int → Option (Bool)) (s12 : List Int) (s22 : List Int) (t12 : Int) (t13 : Int) : Option (Bool) :=
 bif decide (t13 < t12) then
  grd (inb t13 s12) <|
  grd (inb t13 s22) <|
  bif ((at_ 0 s12 t13) != (at_ 0 s22 t13)) then some false
  else
  rec_ s12 s22 t12 (w64 (t13 + 1))
 else
 some true
def slices_Equal_Lint_int_l0 (N : Nat) : Nat → (List Int) → (List Int) → Int → Int → Option (Bool)
 | 0, _, _, _, _ => none
 | k_ + 1, s12, s22, t12, t13 => slices_Equal_Lint_int_l0_b N (slices_Equal_Lint_int_l0 N k_) s12 s22 t12 t13
def slices_Equal_Lint_int_b (N : Nat) (slices_Equal_Lint_int_l0S : (List Int) → (List Int) → Int → Int → Option (Bool)) (s1 : List Int) (s2 : List Int) : Option (Bool) :=
 bif ((s1.length : Int) != (s2.length : Int)) then some false
 else
 slices_Equal_Lint_int_l0S s1 s2 (s1.length : Int) 0
def slices_Equal_Lint_int (N : Nat) (s1 : List Int) (s2 : List Int) : Option (Bool) := slices_Equal_Lint_int_b N (slices_Equal_Lint_int_l0 N N) s1 s2
def impl_sameKey (N : Nat) (relations : List (ByteArray × Int × Int)) (a : Int × List Int) (b : Int × List Int) : Option (Bool) :=
 bif (a.1 != b.1) then some false
 else
 grd (inb a.1 relations) <|
 grd (subOk 0 (((at_ (⟨#[]⟩, (0, 0)) relations a.1).2).2) a.2.length) <|
 grd (subOk 0 (((at_ (⟨#[]⟩, (0, 0)) relations a.1).2).2) b.2.length) <|
 (slices_Equal_Lint_int N (a.2.take (((at_ (⟨#[]⟩, (0, 0)) relations a.1).2).2).toNat) (b.2.take (((at_ (⟨#[]⟩, (0, 0)) relations a.1).2).2).toNat)).bind fun r =>
 some r
def impl_ConflictEdges_c1_l0_b (N : Nat) (rec_ : Int → Int → (List (ByteArray × Int × Int)) → (List (Int × List Int)) → (List (Int × Int × Int × Int × Int × Int × Int)) → Int → Int → Option (Bool)) (a2 : Int) (b2 : Int) (t3 : List (ByteArray × Int × Int)) (t32 : List (Int × List Int)) (t9 : List (Int × Int × Int × Int × Int × Int × Int)) (t10 : Int) (t11 : Int) : Option (Bool) :=
 bif decide (t11 < t10) then
  grd (inb t11 t9) <|
  (impl_ViolatesConstraint N (t3, t32) ((at_ (0, (0, (0, (0, (0, (0, 0)))))) t9 t11).1, ((at_ (0, (0, (0, (0, (0, (0, 0)))))) t9 t11).2).1, (((at_ (0, (0, (0, (0, (0, (0, 0)))))) t9 t11).2).2).1, ((((at_ (0, (0, (0, (0, (0, (0, 0)))))) t9 t11).2).2).2).1, (((((at_ (0, (0, (0, (0, (0, (0, 0)))))) t9 t11).2).2).2).2).1, ((((((at_ (0, (0, (0, (0, (0, (0, 0)))))) t9 t11).2).2).2).2).2)) a2 b2).bind fun r =>
  bif r then some true
  else
  (impl_ViolatesConstraint N (t3, t32) ((at_ (0, (0, (0, (0, (0, (0, 0)))))) t9 t11).1, ((at_ (0, (0, (0, (0, (0, (0, 0)))))) t9 t11).2).1, (((at_ (0, (0, (0, (0, (0, (0, 0)))))) t9 t11).2).2).1, ((((at_ (0, (0, (0, (0, (0, (0, 0)))))) t9 t11).2).2).2).1, (((((at_ (0, (0, (0, (0, (0, (0, 0)))))) t9 t11).2).2).2).2).1, ((((((at_ (0, (0, (0, (0, (0, (0, 0)))))) t9 t11).2).2).2).2).2)) b2 a2).bind fun r2 =>
  bif r2 then some true
  else
  rec_ a2 b2 t3 t32 t9 t10 (w64 (t11 + 1))
 else
 grd (inb a2 t32) <|
 grd (inb b2 t32) <|
 (impl_sameKey N t3 (at_ (0, []) t32 a2) (at_ (0, []) t32 b2)).bind fun r3 =>
 some r3
def impl_ConflictEdges_c1_l0 (N : Nat) : Nat → Int → Int → (List (ByteArray × Int × Int)) → (List (Int × List Int)) → (List (Int × Int × Int × Int × Int × Int × Int)) → Int → Int → Option (Bool)
 | 0, _, _, _, _, _, _, _ => none
 | k_ + 1, a2, b2, t3, t32, t9, t10, t11 => impl_ConflictEdges_c1_l0_b N (impl_ConflictEdges_c1_l0 N k_) a2 b2 t3 t32 t9 t10 t11
def impl_ConflictEdges_c1_b (N : Nat) (impl_ConflictEdges_c1_l0S : Int → Int → (List (ByteArray × Int × Int)) → (List (Int × List Int)) → (List (Int × Int × Int × Int × Int × Int × Int)) → Int → Int → Option (Bool)) (a : Int) (b : Int) (c2 : List (Int × Int × Int × Int × Int × Int × Int)) (c3 : List (ByteArray × Int × Int) × List (Int × List Int)) : Option (Bool) :=
 impl_ConflictEdges_c1_l0S a b c3.1 c3.2 c2 (c2.length : Int) 0
def impl_ConflictEdges_c1 (N : Nat) (a : Int) (b : Int) (c2 : List (Int × Int × Int × Int × Int × Int × Int)) (c3 : List (ByteArray × Int × Int) × List (Int × List Int)) : Option (Bool) := impl_ConflictEdges_c1_b N (impl_ConflictEdges_c1_l0 N N) a b c2 c3
def impl_pairs_ConflictEdges_c1_l1_b (N : Nat) (impl_pairs_ConflictEdges_c1_l0R : Int → (List (Int × Int × Int × Int × Int × Int × Int)) → (List (ByteArray × Int × Int) × List (Int × List Int)) → (List (Int × Int)) → Int → Int → Option (List (Int × Int))) (rec_ : Int → (List (Int × Int × Int × Int × Int × Int × Int)) → (List (ByteArray × Int × Int) × List (Int × List Int)) → (List (Int × Int)) → Int → Int → Int → Int → Option (List (Int × Int))) (n3 : Int) (holds3 : List (Int × Int × Int × Int × Int × Int × Int)) (holds4 : List (ByteArray × Int × Int) × List (Int × List Int)) (out2 : List (Int × Int)) (a : Int) (b : Int) (t92 : Int) (t102 : Int) : Option (List (Int × Int)) :=
 bif decide (b < n3) then
  (impl_ConflictEdges_c1 N a b holds3 holds4).bind fun r =>
  bif r then
   grd (appOk out2 [(a, b)] 16) <|
   rec_ n3 holds3 holds4 (out2 ++ [(a, b)]) a (w64 (b + 1)) t92 t102
  else
  rec_ n3 holds3 holds4 out2 a (w64 (b + 1)) t92 t102
 else
 impl_pairs_ConflictEdges_c1_l0R n3 holds3 holds4 out2 t92 (w64 (t102 + 1))
def impl_pairs_ConflictEdges_c1_l1 (impl_pairs_ConflictEdges_c1_l0R : Int → (List (Int × Int × Int × Int × Int × Int × Int)) → (List (ByteArray × Int × Int) × List (Int × List Int)) → (List (Int × Int)) → Int → Int → Option (List (Int × Int))) (N : Nat) : Nat → Int → (List (Int × Int × Int × Int × Int × Int × Int)) → (List (ByteArray × Int × Int) × List (Int × List Int)) → (List (Int × Int)) → Int → Int → Int → Int → Option (List (Int × Int))
 | 0, _, _, _, _, _, _, _, _ => none
 | k_ + 1, n3, holds3, holds4, out2, a, b, t92, t102 => impl_pairs_ConflictEdges_c1_l1_b N impl_pairs_ConflictEdges_c1_l0R (impl_pairs_ConflictEdges_c1_l1 impl_pairs_ConflictEdges_c1_l0R N k_) n3 holds3 holds4 out2 a b t92 t102
def impl_pairs_ConflictEdges_c1_l0_b (N : Nat) (impl_pairs_ConflictEdges_c1_l1S : Int → (List (Int × Int × Int × Int × Int × Int × Int)) → (List (ByteArray × Int × Int) × List (Int × List Int)) → (List (Int × Int)) → Int → Int → Int → Int → Option (List (Int × Int))) (rec_ : Int → (List (Int × Int × Int × Int × Int × Int × Int)) → (List (ByteArray × Int × Int) × List (Int × List Int)) → (List (Int × Int)) → Int → Int → Option (List (Int × Int))) (n2 : Int) (holds : List (Int × Int × Int × Int × Int × Int × Int)) (holds2 : List (ByteArray × Int × Int) × List (Int × List Int)) (out : List (Int × Int)) (t9 : Int) (t10 : Int) : Option (List (Int × Int)) :=
 bif decide (t10 < t9) then
  impl_pairs_ConflictEdges_c1_l1S n2 holds holds2 out t10 (w64 (t10 + 1)) t9 t10
 else
 some out
def impl_pairs_ConflictEdges_c1_l0 (N : Nat) : Nat → Int → (List (Int × Int × Int × Int × Int × Int × Int)) → (List (ByteArray × Int × Int) × List (Int × List Int)) → (List (Int × Int)) → Int → Int → Option (List (Int × Int))
 | 0, _, _, _, _, _, _ => none
 | k_ + 1, n2, holds, holds2, out, t9, t10 => impl_pairs_ConflictEdges_c1_l0_b N (impl_pairs_ConflictEdges_c1_l1 (impl_pairs_ConflictEdges_c1_l0 N k_) N N) (impl_pairs_ConflictEdges_c1_l0 N k_) n2 holds holds2 out t9 t10
def impl_pairs_ConflictEdges_c1_b (N : Nat) (impl_pairs_ConflictEdges_c1_l0S : Int → (List (Int × Int × Int × Int × Int × Int × Int)) → (List (ByteArray × Int × Int) × List (Int × List Int)) → (List (Int × Int)) → Int → Int → Option (List (Int × Int))) (n : Int) (c : List (Int × Int × Int × Int × Int × Int × Int)) (c2 : List (ByteArray × Int × Int) × List (Int × List Int)) : Option (List (Int × Int)) :=
 impl_pairs_ConflictEdges_c1_l0S n c c2 [] n 0
def impl_pairs_ConflictEdges_c1 (N : Nat) (n : Int) (c : List (Int × Int × Int × Int × Int × Int × Int)) (c2 : List (ByteArray × Int × Int) × List (Int × List Int)) : Option (List (Int × Int)) := impl_pairs_ConflictEdges_c1_b N (impl_pairs_ConflictEdges_c1_l0 N N) n c c2
def impl_ConflictEdges (N : Nat) (db : List (ByteArray × Int × Int) × List (Int × List Int)) (constraints : List (Int × Int × Int × Int × Int × Int × Int)) : Option (List (Int × Int)) :=
 (impl_IsValidDatabase N db).bind fun r =>
 bif (!r) then some []
 else
 (impl_pairs_ConflictEdges_c1 N (db.2.length : Int) constraints db).bind fun r2 =>
 some r2
def impl_AreValidEdges_l0_b (N : Nat) (rec_ : Int → (List (Int × Int)) → (List (Int × Int)) → Int → Int → Option (Bool)) (n2 : Int) (edges2 : List (Int × Int)) (t10 : List (Int × Int)) (t11 : Int) (t12 : Int) : Option (Bool) :=
 bif decide (t12 < t11) then
  grd (inb t12 t10) <|
  bif decide (((at_ (0, 0) t10 t12).1) < 0) then some false
  else
  bif decide (((at_ (0, 0) t10 t12).1) ≥ ((at_ (0, 0) t10 t12).2)) then some false
  else
  bif decide (((at_ (0, 0) t10 t12).2) ≥ n2) then some false
  else
  bif decide (t12 > 0) then
   grd (inb (w64 (t12 - 1)) edges2) <|
   bif decide (((at_ (0, 0) edges2 (w64 (t12 - 1))).1) > ((at_ (0, 0) t10 t12).1)) then some false
   else
   grd (inb (w64 (t12 - 1)) edges2) <|
   bif (((at_ (0, 0) edges2 (w64 (t12 - 1))).1) == ((at_ (0, 0) t10 t12).1)) then
    grd (inb (w64 (t12 - 1)) edges2) <|
    bif decide (((at_ (0, 0) edges2 (w64 (t12 - 1))).2) ≥ ((at_ (0, 0) t10 t12).2)) then some false
    else
    rec_ n2 edges2 t10 t11 (w64 (t12 + 1))
   else
   rec_ n2 edges2 t10 t11 (w64 (t12 + 1))
  else
  rec_ n2 edges2 t10 t11 (w64 (t12 + 1))
 else
 some true
def impl_AreValidEdges_l0 (N : Nat) : Nat → Int → (List (Int × Int)) → (List (Int × Int)) → Int → Int → Option (Bool)
 | 0, _, _, _, _, _ => none
 | k_ + 1, n2, edges2, t10, t11, t12 => impl_AreValidEdges_l0_b N (impl_AreValidEdges_l0 N k_) n2 edges2 t10 t11 t12
def impl_AreValidEdges_b (N : Nat) (impl_AreValidEdges_l0S : Int → (List (Int × Int)) → (List (Int × Int)) → Int → Int → Option (Bool)) (n : Int) (edges : List (Int × Int)) : Option (Bool) :=
 (impl_within N n 0 14).bind fun r =>
 bif (!r) then some false
 else
 impl_AreValidEdges_l0S n edges edges (edges.length : Int) 0
def impl_AreValidEdges (N : Nat) (n : Int) (edges : List (Int × Int)) : Option (Bool) := impl_AreValidEdges_b N (impl_AreValidEdges_l0 N N) n edges
def slices_Index_Lint_int_l0_b (N : Nat) (rec_ : (List Int) → Int → Int → Int → Option (Int)) (s2 : List Int) (v2 : Int) (t7 : Int) (t8 : Int) : Option (Int) :=
 bif decide (t8 < t7) then
  grd (inb t8 s2) <|
  bif (v2 == (at_ 0 s2 t8)) then some t8
  else
  rec_ s2 v2 t7 (w64 (t8 + 1))
 else
 some (-1)
def slices_Index_Lint_int_l0 (N : Nat) : Nat → (List Int) → Int → Int → Int → Option (Int)
 | 0, _, _, _, _ => none
 | k_ + 1, s2, v2, t7, t8 => slices_Index_Lint_int_l0_b N (slices_Index_Lint_int_l0 N k_) s2 v2 t7 t8
def slices_Index_Lint_int_b (N : Nat) (slices_Index_Lint_int_l0S : (List Int) → Int → Int → Int → Option (Int)) (s : List Int) (v : Int) : Option (Int) :=
 slices_Index_Lint_int_l0S s v (s.length : Int) 0
def slices_Index_Lint_int (N : Nat) (s : List Int) (v : Int) : Option (Int) := slices_Index_Lint_int_b N (slices_Index_Lint_int_l0 N N) s v
def slices_Contains_Lint_int (N : Nat) (s : List Int) (v : Int) : Option (Bool) :=
 (slices_Index_Lint_int N s v).bind fun r =>
 some (decide (r ≥ 0))
def impl_IsIndependent_c1 (N : Nat) (e : Int × Int) (c1 : List Int) : Option (Bool) :=
 (slices_Contains_Lint_int N c1 e.1).bind fun r =>
 bif r then
  (slices_Contains_Lint_int N c1 e.2).bind fun r2 =>
  some r2
 else
 some false
def slices_IndexFunc_LConflictEdge_ConflictEdge_IsIndependent_c1_l0_b (N : Nat) (rec_ : (List (Int × Int)) → (List Int) → Int → Int → Option (Int)) (s2 : List (Int × Int)) (f : List Int) (t7 : Int) (t8 : Int) : Option (Int) :=
 bif decide (t8 < t7) then
  grd (inb t8 s2) <|
  (impl_IsIndependent_c1 N (at_ (0, 0) s2 t8) f).bind fun r =>
  bif r then some t8
  else
  rec_ s2 f t7 (w64 (t8 + 1))
 else
 some (-1)
def slices_IndexFunc_LConflictEdge_ConflictEdge_IsIndependent_c1_l0 (N : Nat) : Nat → (List (Int × Int)) → (List Int) → Int → Int → Option (Int)
 | 0, _, _, _, _ => none
 | k_ + 1, s2, f, t7, t8 => slices_IndexFunc_LConflictEdge_ConflictEdge_IsIndependent_c1_l0_b N (slices_IndexFunc_LConflictEdge_ConflictEdge_IsIndependent_c1_l0 N k_) s2 f t7 t8
def slices_IndexFunc_LConflictEdge_ConflictEdge_IsIndependent_c1_b (N : Nat) (slices_IndexFunc_LConflictEdge_ConflictEdge_IsIndependent_c1_l0S : (List (Int × Int)) → (List Int) → Int → Int → Option (Int)) (s : List (Int × Int)) (c : List Int) : Option (Int) :=
 slices_IndexFunc_LConflictEdge_ConflictEdge_IsIndependent_c1_l0S s c (s.length : Int) 0
def slices_IndexFunc_LConflictEdge_ConflictEdge_IsIndependent_c1 (N : Nat) (s : List (Int × Int)) (c : List Int) : Option (Int) := slices_IndexFunc_LConflictEdge_ConflictEdge_IsIndependent_c1_b N (slices_IndexFunc_LConflictEdge_ConflictEdge_IsIndependent_c1_l0 N N) s c
def slices_ContainsFunc_LConflictEdge_ConflictEdge_IsIndependent_c1 (N : Nat) (s : List (Int × Int)) (c : List Int) : Option (Bool) :=
 (slices_IndexFunc_LConflictEdge_ConflictEdge_IsIndependent_c1 N s c).bind fun r =>
 some (decide (r ≥ 0))
def impl_IsIndependent (N : Nat) (edges : List (Int × Int)) (set : List Int) : Option (Bool) :=
 (slices_ContainsFunc_LConflictEdge_ConflictEdge_IsIndependent_c1 N edges set).bind fun r =>
 some (!r)
def impl_isIndependentSet (N : Nat) (n : Int) (edges : List (Int × Int)) (set : List Int) : Option (Bool) :=
 (impl_AreValidEdges N n edges).bind fun r =>
 bif r then
  (impl_areIndices N set n).bind fun r2 =>
  bif r2 then
   (impl_IsIndependent N edges set).bind fun r3 =>
   some r3
  else
  some false
 else
 some false
def impl_IsMaximalIndependent_l0_b (N : Nat) (rec_ : (List (Int × Int)) → (List Int) → Int → Int → Option (Bool)) (edges2 : List (Int × Int)) (set2 : List Int) (t13 : Int) (t14 : Int) : Option (Bool) :=
 bif decide (t14 < t13) then
  (slices_Contains_Lint_int N set2 t14).bind fun r2 =>
  bif (!r2) then
   (slices_Clone_Lint_int N set2).bind fun r3 =>
   grd (appOk r3 [t14] 8) <|
   (impl_IsIndependent N edges2 (r3 ++ [t14])).bind fun r4 =>
   bif r4 then some false
   else
   rec_ edges2 set2 t13 (w64 (t14 + 1))
  else
  rec_ edges2 set2 t13 (w64 (t14 + 1))
 else
 some true
def impl_IsMaximalIndependent_l0 (N : Nat) : Nat → (List (Int × Int)) → (List Int) → Int → Int → Option (Bool)
 | 0, _, _, _, _ => none
 | k_ + 1, edges2, set2, t13, t14 => impl_IsMaximalIndependent_l0_b N (impl_IsMaximalIndependent_l0 N k_) edges2 set2 t13 t14
def impl_IsMaximalIndependent_b (N : Nat) (impl_IsMaximalIndependent_l0S : (List (Int × Int)) → (List Int) → Int → Int → Option (Bool)) (n : Int) (edges : List (Int × Int)) (set : List Int) : Option (Bool) :=
 (impl_isIndependentSet N n edges set).bind fun r =>
 bif (!r) then some false
 else
 impl_IsMaximalIndependent_l0S edges set n 0
def impl_IsMaximalIndependent (N : Nat) (n : Int) (edges : List (Int × Int)) (set : List Int) : Option (Bool) := impl_IsMaximalIndependent_b N (impl_IsMaximalIndependent_l0 N N) n edges set
def impl_MaximalIndependentSets_c1_b (N : Nat) (Rf : Int → (List Int) → Int → (List (Int × Int)) → (List (List Int)) → Int → (List (Int × Int)) → Option (List (List Int))) (v : Int) (set : List Int) (c2 : Int) (c3 : List (Int × Int)) (c4 : List (List Int)) (sc2 : Int) (sc3 : List (Int × Int)) : Option (List (List Int)) :=
 bif (v == c2) then
  (impl_IsMaximalIndependent N c2 c3 set).bind fun r =>
  bif r then
   grd (appOk [] set 8) <|
   grd (appOk c4 [set] 24) <|
   some (c4 ++ [set])
  else
  some c4
 else
 (slices_Clone_Lint_int N set).bind fun r2 =>
 grd (appOk r2 [v] 8) <|
 (impl_IsIndependent N c3 (r2 ++ [v])).bind fun r3 =>
 bif r3 then
  (Rf (w64 (v + 1)) (r2 ++ [v]) sc2 sc3 c4 sc2 sc3).bind fun m =>
  (Rf (w64 (v + 1)) set sc2 sc3 m sc2 sc3).bind fun m2 =>
  some m2
 else
 (Rf (w64 (v + 1)) set sc2 sc3 c4 sc2 sc3).bind fun m3 =>
 some m3
def impl_MaximalIndependentSets_c1_r (N : Nat) : Nat → Int → (List Int) → Int → (List (Int × Int)) → (List (List Int)) → Int → (List (Int × Int)) → Option (List (List Int))
 | 0, _, _, _, _, _, _, _ => none
 | k_ + 1, v, set, c2, c3, c4, sc2, sc3 => impl_MaximalIndependentSets_c1_b N (impl_MaximalIndependentSets_c1_r N k_) v set c2 c3 c4 sc2 sc3
def impl_MaximalIndependentSets_c1 (N : Nat) (v : Int) (set : List Int) (c2 : Int) (c3 : List (Int × Int)) (c4 : List (List Int)) (sc2 : Int) (sc3 : List (Int × Int)) : Option (List (List Int)) := impl_MaximalIndependentSets_c1_r N N v set c2 c3 c4 sc2 sc3
def impl_MaximalIndependentSets (N : Nat) (n : Int) (edges : List (Int × Int)) : Option (List (List Int)) :=
 (impl_AreValidEdges N n edges).bind fun r =>
 bif (!r) then some []
 else
 (impl_MaximalIndependentSets_c1 N 0 [] n edges [] n edges).bind fun m =>
 some m
def impl_SubsetRepairs (N : Nat) (db : List (ByteArray × Int × Int) × List (Int × List Int)) (constraints : List (Int × Int × Int × Int × Int × Int × Int)) : Option (List (List Int)) :=
 (impl_IsValidDatabase N db).bind fun r =>
 bif (!r) then some []
 else
 (impl_ConflictEdges N db constraints).bind fun r2 =>
 (impl_MaximalIndependentSets N (db.2.length : Int) r2).bind fun r3 =>
 some r3
def impl_without_l0_b (N : Nat) (rec_ : (List Int) → (List Int) → (List Int) → Int → Int → Option (List Int)) (b2 : List Int) (out : List Int) (t9 : List Int) (t10 : Int) (t11 : Int) : Option (List Int) :=
 bif decide (t11 < t10) then
  grd (inb t11 t9) <|
  (slices_Contains_Lint_int N b2 (at_ 0 t9 t11)).bind fun r =>
  bif (!r) then
   grd (appOk out [(at_ 0 t9 t11)] 8) <|
   rec_ b2 (out ++ [(at_ 0 t9 t11)]) t9 t10 (w64 (t11 + 1))
  else
  rec_ b2 out t9 t10 (w64 (t11 + 1))
 else
 some out
def impl_without_l0 (N : Nat) : Nat → (List Int) → (List Int) → (List Int) → Int → Int → Option (List Int)
 | 0, _, _, _, _, _ => none
 | k_ + 1, b2, out, t9, t10, t11 => impl_without_l0_b N (impl_without_l0 N k_) b2 out t9 t10 t11
def impl_without_b (N : Nat) (impl_without_l0S : (List Int) → (List Int) → (List Int) → Int → Int → Option (List Int)) (a : List Int) (b : List Int) : Option (List Int) :=
 impl_without_l0S b [] a (a.length : Int) 0
def impl_without (N : Nat) (a : List Int) (b : List Int) : Option (List Int) := impl_without_b N (impl_without_l0 N N) a b
def impl_ClosestRepair_l1_b (N : Nat) (rec_ : (List Int) → Int → (List Int) → Int → (List (List Int)) → Int → Int → Option (List Int × Bool)) (indices3 : List Int) (outi : Int) (out2 : List Int) (most2 : Int) (t262 : List (List Int)) (t272 : Int) (t282 : Int) : Option (List Int × Bool) :=
 bif decide (t282 < t272) then
  grd (inb t282 t262) <|
  (impl_without N (at_ [] t262 t282) indices3).bind fun r5 =>
  bif decide ((w64 (((at_ [] t262 t282).length : Int) - (r5.length : Int))) > most2) then
   rec_ indices3 t282 (at_ [] t262 t282) (w64 (((at_ [] t262 t282).length : Int) - (r5.length : Int))) t262 t272 (w64 (t282 + 1))
  else
  rec_ indices3 outi out2 most2 t262 t272 (w64 (t282 + 1))
 else
 some (out2, decide (most2 ≥ 0))
def impl_ClosestRepair_l1 (N : Nat) : Nat → (List Int) → Int → (List Int) → Int → (List (List Int)) → Int → Int → Option (List Int × Bool)
 | 0, _, _, _, _, _, _, _ => none
 | k_ + 1, indices3, outi, out2, most2, t262, t272, t282 => impl_ClosestRepair_l1_b N (impl_ClosestRepair_l1 N k_) indices3 outi out2 most2 t262 t272 t282
def impl_ClosestRepair_l0_b (N : Nat) (impl_ClosestRepair_l1S : (List Int) → Int → (List Int) → Int → (List (List Int)) → Int → Int → Option (List Int × Bool)) (rec_ : (List Int) → (List Int) → Int → (List (List Int)) → Int → Int → Option (List Int × Bool)) (indices2 : List Int) (out : List Int) (most : Int) (t26 : List (List Int)) (t27 : Int) (t28 : Int) : Option (List Int × Bool) :=
 bif decide (t28 < t27) then
  grd (inb t28 t26) <|
  (impl_without N (at_ [] t26 t28) indices2).bind fun r4 =>
  bif decide ((w64 (((at_ [] t26 t28).length : Int) - (r4.length : Int))) > most) then
   impl_ClosestRepair_l1S indices2 t28 (at_ [] t26 t28) (w64 (((at_ [] t26 t28).length : Int) - (r4.length : Int))) t26 t27 (w64 (t28 + 1))
  else
  rec_ indices2 out most t26 t27 (w64 (t28 + 1))
 else
 some (out, decide (most ≥ 0))
def impl_ClosestRepair_l0 (N : Nat) : Nat → (List Int) → (List Int) → Int → (List (List Int)) → Int → Int → Option (List Int × Bool)
 | 0, _, _, _, _, _, _ => none
 | k_ + 1, indices2, out, most, t26, t27, t28 => impl_ClosestRepair_l0_b N (impl_ClosestRepair_l1 N k_) (impl_ClosestRepair_l0 N k_) indices2 out most t26 t27 t28
def impl_ClosestRepair_b (N : Nat) (impl_ClosestRepair_l0S : (List Int) → (List Int) → Int → (List (List Int)) → Int → Int → Option (List Int × Bool)) (db : List (ByteArray × Int × Int) × List (Int × List Int)) (constraints : List (Int × Int × Int × Int × Int × Int × Int)) (indices : List Int) : Option (List Int × Bool) :=
 (impl_IsValidDatabase N db).bind fun r =>
 bif (!r) then some ([], false)
 else
 (impl_areIndices N indices (db.2.length : Int)).bind fun r2 =>
 bif (!r2) then some ([], false)
 else
 (impl_SubsetRepairs N db constraints).bind fun r3 =>
 impl_ClosestRepair_l0S indices [] (-1) r3 (r3.length : Int) 0
def impl_ClosestRepair (N : Nat) (db : List (ByteArray × Int × Int) × List (Int × List Int)) (constraints : List (Int × Int × Int × Int × Int × Int × Int)) (indices : List Int) : Option (List Int × Bool) := impl_ClosestRepair_b N (impl_ClosestRepair_l0 N N) db constraints indices
def laws_eqIntS_l0_b (N : Nat) (rec_ : (List Int) → (List Int) → Int → Option (Bool)) (a2 : List Int) (b2 : List Int) (i : Int) : Option (Bool) :=
 bif decide (i < (a2.length : Int)) then
  grd (inb i a2) <|
  grd (inb i b2) <|
  bif ((at_ 0 a2 i) != (at_ 0 b2 i)) then some false
  else
  rec_ a2 b2 (w64 (i + 1))
 else
 some true
def laws_eqIntS_l0 (N : Nat) : Nat → (List Int) → (List Int) → Int → Option (Bool)
 | 0, _, _, _ => none
 | k_ + 1, a2, b2, i => laws_eqIntS_l0_b N (laws_eqIntS_l0 N k_) a2 b2 i
def laws_eqIntS_b (N : Nat) (laws_eqIntS_l0S : (List Int) → (List Int) → Int → Option (Bool)) (a : List Int) (b : List Int) : Option (Bool) :=
 bif ((a.length : Int) != (b.length : Int)) then some false
 else
 laws_eqIntS_l0S a b 0
def laws_eqIntS (N : Nat) (a : List Int) (b : List Int) : Option (Bool) := laws_eqIntS_b N (laws_eqIntS_l0 N N) a b
def laws_eqRelation (N : Nat) (a : ByteArray × Int × Int) (b : ByteArray × Int × Int) : Option (Bool) :=
 bif (!seq a.1 b.1) then some false
 else
 bif (a.2.1 != b.2.1) then some false
 else
 bif (a.2.2 != b.2.2) then some false
 else
 some true
def laws_eqRelationS_l0_b (N : Nat) (rec_ : (List (ByteArray × Int × Int)) → (List (ByteArray × Int × Int)) → Int → Option (Bool)) (a2 : List (ByteArray × Int × Int)) (b2 : List (ByteArray × Int × Int)) (i : Int) : Option (Bool) :=
 bif decide (i < (a2.length : Int)) then
  grd (inb i a2) <|
  grd (inb i b2) <|
  (laws_eqRelation N ((at_ (⟨#[]⟩, (0, 0)) a2 i).1, ((at_ (⟨#[]⟩, (0, 0)) a2 i).2)) ((at_ (⟨#[]⟩, (0, 0)) b2 i).1, ((at_ (⟨#[]⟩, (0, 0)) b2 i).2))).bind fun r =>
  bif (!r) then some false
  else
  rec_ a2 b2 (w64 (i + 1))
 else
 some true
def laws_eqRelationS_l0 (N : Nat) : Nat → (List (ByteArray × Int × Int)) → (List (ByteArray × Int × Int)) → Int → Option (Bool)
 | 0, _, _, _ => none
 | k_ + 1, a2, b2, i => laws_eqRelationS_l0_b N (laws_eqRelationS_l0 N k_) a2 b2 i
def laws_eqRelationS_b (N : Nat) (laws_eqRelationS_l0S : (List (ByteArray × Int × Int)) → (List (ByteArray × Int × Int)) → Int → Option (Bool)) (a : List (ByteArray × Int × Int)) (b : List (ByteArray × Int × Int)) : Option (Bool) :=
 bif ((a.length : Int) != (b.length : Int)) then some false
 else
 laws_eqRelationS_l0S a b 0
def laws_eqRelationS (N : Nat) (a : List (ByteArray × Int × Int)) (b : List (ByteArray × Int × Int)) : Option (Bool) := laws_eqRelationS_b N (laws_eqRelationS_l0 N N) a b
def laws_eqFact (N : Nat) (a : Int × List Int) (b : Int × List Int) : Option (Bool) :=
 bif (a.1 != b.1) then some false
 else
 (laws_eqIntS N a.2 b.2).bind fun r =>
 bif (!r) then some false
 else
 some true
def laws_eqFactS_l0_b (N : Nat) (rec_ : (List (Int × List Int)) → (List (Int × List Int)) → Int → Option (Bool)) (a2 : List (Int × List Int)) (b2 : List (Int × List Int)) (i : Int) : Option (Bool) :=
 bif decide (i < (a2.length : Int)) then
  grd (inb i a2) <|
  grd (inb i b2) <|
  (laws_eqFact N (at_ (0, []) a2 i) (at_ (0, []) b2 i)).bind fun r =>
  bif (!r) then some false
  else
  rec_ a2 b2 (w64 (i + 1))
 else
 some true
def laws_eqFactS_l0 (N : Nat) : Nat → (List (Int × List Int)) → (List (Int × List Int)) → Int → Option (Bool)
 | 0, _, _, _ => none
 | k_ + 1, a2, b2, i => laws_eqFactS_l0_b N (laws_eqFactS_l0 N k_) a2 b2 i
def laws_eqFactS_b (N : Nat) (laws_eqFactS_l0S : (List (Int × List Int)) → (List (Int × List Int)) → Int → Option (Bool)) (a : List (Int × List Int)) (b : List (Int × List Int)) : Option (Bool) :=
 bif ((a.length : Int) != (b.length : Int)) then some false
 else
 laws_eqFactS_l0S a b 0
def laws_eqFactS (N : Nat) (a : List (Int × List Int)) (b : List (Int × List Int)) : Option (Bool) := laws_eqFactS_b N (laws_eqFactS_l0 N N) a b
def laws_eqDatabase (N : Nat) (a : List (ByteArray × Int × Int) × List (Int × List Int)) (b : List (ByteArray × Int × Int) × List (Int × List Int)) : Option (Bool) :=
 (laws_eqRelationS N a.1 b.1).bind fun r =>
 bif (!r) then some false
 else
 (laws_eqFactS N a.2 b.2).bind fun r2 =>
 bif (!r2) then some false
 else
 some true
def laws_eqDenialConstraint (N : Nat) (a : Int × Int × Int × Int × Int × Int × Int) (b : Int × Int × Int × Int × Int × Int × Int) : Option (Bool) :=
 bif (a.1 != b.1) then some false
 else
 bif (a.2.1 != b.2.1) then some false
 else
 bif (a.2.2.1 != b.2.2.1) then some false
 else
 bif (a.2.2.2.1 != b.2.2.2.1) then some false
 else
 bif (a.2.2.2.2.1 != b.2.2.2.2.1) then some false
 else
 bif (a.2.2.2.2.2.1 != b.2.2.2.2.2.1) then some false
 else
 bif (a.2.2.2.2.2.2 != b.2.2.2.2.2.2) then some false
 else
 some true
def laws_eqDenialConstraintS_l0_b (N : Nat) (rec_ : (List (Int × Int × Int × Int × Int × Int × Int)) → (List (Int × Int × Int × Int × Int × Int × Int)) → Int → Option (Bool)) (a2 : List (Int × Int × Int × Int × Int × Int × Int)) (b2 : List (Int × Int × Int × Int × Int × Int × Int)) (i : Int) : Option (Bool) :=
 bif decide (i < (a2.length : Int)) then
  grd (inb i a2) <|
  grd (inb i b2) <|
  (laws_eqDenialConstraint N ((at_ (0, (0, (0, (0, (0, (0, 0)))))) a2 i).1, ((at_ (0, (0, (0, (0, (0, (0, 0)))))) a2 i).2).1, (((at_ (0, (0, (0, (0, (0, (0, 0)))))) a2 i).2).2).1, ((((at_ (0, (0, (0, (0, (0, (0, 0)))))) a2 i).2).2).2).1, (((((at_ (0, (0, (0, (0, (0, (0, 0)))))) a2 i).2).2).2).2).1, ((((((at_ (0, (0, (0, (0, (0, (0, 0)))))) a2 i).2).2).2).2).2)) ((at_ (0, (0, (0, (0, (0, (0, 0)))))) b2 i).1, ((at_ (0, (0, (0, (0, (0, (0, 0)))))) b2 i).2).1, (((at_ (0, (0, (0, (0, (0, (0, 0)))))) b2 i).2).2).1, ((((at_ (0, (0, (0, (0, (0, (0, 0)))))) b2 i).2).2).2).1, (((((at_ (0, (0, (0, (0, (0, (0, 0)))))) b2 i).2).2).2).2).1, ((((((at_ (0, (0, (0, (0, (0, (0, 0)))))) b2 i).2).2).2).2).2))).bind fun r =>
  bif (!r) then some false
  else
  rec_ a2 b2 (w64 (i + 1))
 else
 some true
def laws_eqDenialConstraintS_l0 (N : Nat) : Nat → (List (Int × Int × Int × Int × Int × Int × Int)) → (List (Int × Int × Int × Int × Int × Int × Int)) → Int → Option (Bool)
 | 0, _, _, _ => none
 | k_ + 1, a2, b2, i => laws_eqDenialConstraintS_l0_b N (laws_eqDenialConstraintS_l0 N k_) a2 b2 i
def laws_eqDenialConstraintS_b (N : Nat) (laws_eqDenialConstraintS_l0S : (List (Int × Int × Int × Int × Int × Int × Int)) → (List (Int × Int × Int × Int × Int × Int × Int)) → Int → Option (Bool)) (a : List (Int × Int × Int × Int × Int × Int × Int)) (b : List (Int × Int × Int × Int × Int × Int × Int)) : Option (Bool) :=
 bif ((a.length : Int) != (b.length : Int)) then some false
 else
 laws_eqDenialConstraintS_l0S a b 0
def laws_eqDenialConstraintS (N : Nat) (a : List (Int × Int × Int × Int × Int × Int × Int)) (b : List (Int × Int × Int × Int × Int × Int × Int)) : Option (Bool) := laws_eqDenialConstraintS_b N (laws_eqDenialConstraintS_l0 N N) a b
def laws_markText_l0_b (N : Nat) (rec_ : Int → ByteArray → Option (ByteArray)) (k2 : Int) (out : ByteArray) : Option (ByteArray) :=
 bif decide (k2 > 0) then
  grz 10 <|
  grd (catOk (ofBytes [(w .u8 (w64 (48 + (k2.tmod 10))))]) out) <|
  grz 10 <|
  rec_ (w64 (k2.tdiv 10)) ((ofBytes [(w .u8 (w64 (48 + (k2.tmod 10))))]) ++ out)
 else
 grd (catOk (⟨#[109]⟩) out) <|
 some ((⟨#[109]⟩) ++ out)
def laws_markText_l0 (N : Nat) : Nat → Int → ByteArray → Option (ByteArray)
 | 0, _, _ => none
 | k_ + 1, k2, out => laws_markText_l0_b N (laws_markText_l0 N k_) k2 out
def laws_markText_b (N : Nat) (laws_markText_l0S : Int → ByteArray → Option (ByteArray)) (k : Int) : Option (ByteArray) :=
 bif decide (k ≤ 0) then some (⟨#[109, 48]⟩)
 else
 laws_markText_l0S k (⟨#[]⟩)
def laws_markText (N : Nat) (k : Int) : Option (ByteArray) := laws_markText_b N (laws_markText_l0 N N) k
def laws_markRelationS_l0_b (N : Nat) (rec_ : (List (ByteArray × Int × Int)) → Int → Int → Option ((List (ByteArray × Int × Int)) × Int)) (a2 : List (ByteArray × Int × Int)) (k2 : Int) (i : Int) : Option ((List (ByteArray × Int × Int)) × Int) :=
 bif decide (i < (a2.length : Int)) then
  (laws_markText N k2).bind fun r =>
  grd (inb i a2) <|
  grd (inb i a2) <|
  letv (a2.set i.toNat (r, ((at_ (⟨#[]⟩, (0, 0)) a2 i).2))) fun u =>
  grd (inb i u) <|
  grd (inb i u) <|
  letv (u.set i.toNat ((at_ (⟨#[]⟩, (0, 0)) u i).1, (w64 (k2 + 1)), ((at_ (⟨#[]⟩, (0, 0)) u i).2).2)) fun u2 =>
  grd (inb i u2) <|
  grd (inb i u2) <|
  letv (u2.set i.toNat ((at_ (⟨#[]⟩, (0, 0)) u2 i).1, ((at_ (⟨#[]⟩, (0, 0)) u2 i).2).1, (w64 ((w64 (k2 + 1)) + 1)))) fun u3 =>
  rec_ u3 (w64 ((w64 ((w64 (k2 + 1)) + 1)) + 1)) (w64 (i + 1))
 else
 some (a2, k2)
def laws_markRelationS_l0 (N : Nat) : Nat → (List (ByteArray × Int × Int)) → Int → Int → Option ((List (ByteArray × Int × Int)) × Int)
 | 0, _, _, _ => none
 | k_ + 1, a2, k2, i => laws_markRelationS_l0_b N (laws_markRelationS_l0 N k_) a2 k2 i
def laws_markRelationS_b (N : Nat) (laws_markRelationS_l0S : (List (ByteArray × Int × Int)) → Int → Int → Option ((List (ByteArray × Int × Int)) × Int)) (a : List (ByteArray × Int × Int)) (k : Int) : Option ((List (ByteArray × Int × Int)) × Int) :=
 laws_markRelationS_l0S a k 0
def laws_markRelationS (N : Nat) (a : List (ByteArray × Int × Int)) (k : Int) : Option ((List (ByteArray × Int × Int)) × Int) := laws_markRelationS_b N (laws_markRelationS_l0 N N) a k
def laws_markIntS_l0_b (N : Nat) (rec_ : (List Int) → Int → Int → Option (List Int × Int)) (a2 : List Int) (k2 : Int) (i : Int) : Option (List Int × Int) :=
 bif decide (i < (a2.length : Int)) then
  grd (inb i a2) <|
  grd (inb i a2) <|
  letv (a2.set i.toNat k2) fun u =>
  rec_ u (w64 (k2 + 1)) (w64 (i + 1))
 else
 some (a2, k2)
def laws_markIntS_l0 (N : Nat) : Nat → (List Int) → Int → Int → Option (List Int × Int)
 | 0, _, _, _ => none
 | k_ + 1, a2, k2, i => laws_markIntS_l0_b N (laws_markIntS_l0 N k_) a2 k2 i
def laws_markIntS_b (N : Nat) (laws_markIntS_l0S : (List Int) → Int → Int → Option (List Int × Int)) (a : List Int) (k : Int) : Option (List Int × Int) :=
 laws_markIntS_l0S a k 0
def laws_markIntS (N : Nat) (a : List Int) (k : Int) : Option (List Int × Int) := laws_markIntS_b N (laws_markIntS_l0 N N) a k
def laws_markFactS_l0_b (N : Nat) (rec_ : (List (Int × List Int)) → Int → Int → Option ((List (Int × List Int)) × Int)) (a2 : List (Int × List Int)) (k2 : Int) (i : Int) : Option ((List (Int × List Int)) × Int) :=
 bif decide (i < (a2.length : Int)) then
  grd (inb i a2) <|
  grd (inb i a2) <|
  letv (a2.set i.toNat (k2, (at_ (0, []) a2 i).2)) fun u =>
  grd (inb i u) <|
  (laws_markIntS N ((at_ (0, []) u i).2) (w64 (k2 + 1))).bind fun p_m =>
  letv (u.set i.toNat ((at_ (0, []) u i).1, p_m.1)) fun u2 =>
  rec_ u2 p_m.2 (w64 (i + 1))
 else
 some (a2, k2)
def laws_markFactS_l0 (N : Nat) : Nat → (List (Int × List Int)) → Int → Int → Option ((List (Int × List Int)) × Int)
 | 0, _, _, _ => none
 | k_ + 1, a2, k2, i => laws_markFactS_l0_b N (laws_markFactS_l0 N k_) a2 k2 i
def laws_markFactS_b (N : Nat) (laws_markFactS_l0S : (List (Int × List Int)) → Int → Int → Option ((List (Int × List Int)) × Int)) (a : List (Int × List Int)) (k : Int) : Option ((List (Int × List Int)) × Int) :=
 laws_markFactS_l0S a k 0
def laws_markFactS (N : Nat) (a : List (Int × List Int)) (k : Int) : Option ((List (Int × List Int)) × Int) := laws_markFactS_b N (laws_markFactS_l0 N N) a k
def laws_markDatabase (N : Nat) (a : List (ByteArray × Int × Int) × List (Int × List Int)) (k : Int) : Option ((List (ByteArray × Int × Int) × List (Int × List Int)) × Int) :=
 (laws_markRelationS N a.1 k).bind fun p_m =>
 (laws_markFactS N a.2 p_m.2).bind fun p_m2 =>
 some ((p_m.1, p_m2.1), p_m2.2)
def laws_markDenialConstraintS_l0_b (N : Nat) (rec_ : (List (Int × Int × Int × Int × Int × Int × Int)) → Int → Int → Option ((List (Int × Int × Int × Int × Int × Int × Int)) × Int)) (a2 : List (Int × Int × Int × Int × Int × Int × Int)) (k2 : Int) (i : Int) : Option ((List (Int × Int × Int × Int × Int × Int × Int)) × Int) :=
 bif decide (i < (a2.length : Int)) then
  grd (inb i a2) <|
  grd (inb i a2) <|
  letv (a2.set i.toNat (k2, ((at_ (0, (0, (0, (0, (0, (0, 0)))))) a2 i).2).1, (((at_ (0, (0, (0, (0, (0, (0, 0)))))) a2 i).2).2).1, ((((at_ (0, (0, (0, (0, (0, (0, 0)))))) a2 i).2).2).2).1, (((((at_ (0, (0, (0, (0, (0, (0, 0)))))) a2 i).2).2).2).2).1, ((((((at_ (0, (0, (0, (0, (0, (0, 0)))))) a2 i).2).2).2).2).2))) fun u =>
  grd (inb i u) <|
  grd (inb i u) <|
  letv (u.set i.toNat ((at_ (0, (0, (0, (0, (0, (0, 0)))))) u i).1, (w64 (k2 + 1)), (((at_ (0, (0, (0, (0, (0, (0, 0)))))) u i).2).2).1, ((((at_ (0, (0, (0, (0, (0, (0, 0)))))) u i).2).2).2).1, (((((at_ (0, (0, (0, (0, (0, (0, 0)))))) u i).2).2).2).2).1, ((((((at_ (0, (0, (0, (0, (0, (0, 0)))))) u i).2).2).2).2).2))) fun u2 =>
  grd (inb i u2) <|
  grd (inb i u2) <|
  letv (u2.set i.toNat ((at_ (0, (0, (0, (0, (0, (0, 0)))))) u2 i).1, ((at_ (0, (0, (0, (0, (0, (0, 0)))))) u2 i).2).1, (w64 ((w64 (k2 + 1)) + 1)), ((((at_ (0, (0, (0, (0, (0, (0, 0)))))) u2 i).2).2).2).1, (((((at_ (0, (0, (0, (0, (0, (0, 0)))))) u2 i).2).2).2).2).1, ((((((at_ (0, (0, (0, (0, (0, (0, 0)))))) u2 i).2).2).2).2).2))) fun u3 =>
  grd (inb i u3) <|
  grd (inb i u3) <|
  letv (u3.set i.toNat ((at_ (0, (0, (0, (0, (0, (0, 0)))))) u3 i).1, ((at_ (0, (0, (0, (0, (0, (0, 0)))))) u3 i).2).1, (((at_ (0, (0, (0, (0, (0, (0, 0)))))) u3 i).2).2).1, (w64 ((w64 ((w64 (k2 + 1)) + 1)) + 1)), (((((at_ (0, (0, (0, (0, (0, (0, 0)))))) u3 i).2).2).2).2).1, ((((((at_ (0, (0, (0, (0, (0, (0, 0)))))) u3 i).2).2).2).2).2))) fun u4 =>
  grd (inb i u4) <|
  grd (inb i u4) <|
  letv (u4.set i.toNat ((at_ (0, (0, (0, (0, (0, (0, 0)))))) u4 i).1, ((at_ (0, (0, (0, (0, (0, (0, 0)))))) u4 i).2).1, (((at_ (0, (0, (0, (0, (0, (0, 0)))))) u4 i).2).2).1, ((((at_ (0, (0, (0, (0, (0, (0, 0)))))) u4 i).2).2).2).1, (w64 ((w64 ((w64 ((w64 (k2 + 1)) + 1)) + 1)) + 1)), ((((((at_ (0, (0, (0, (0, (0, (0, 0)))))) u4 i).2).2).2).2).2))) fun u5 =>
  grd (inb i u5) <|
  grd (inb i u5) <|
  letv (u5.set i.toNat ((at_ (0, (0, (0, (0, (0, (0, 0)))))) u5 i).1, ((at_ (0, (0, (0, (0, (0, (0, 0)))))) u5 i).2).1, (((at_ (0, (0, (0, (0, (0, (0, 0)))))) u5 i).2).2).1, ((((at_ (0, (0, (0, (0, (0, (0, 0)))))) u5 i).2).2).2).1, (((((at_ (0, (0, (0, (0, (0, (0, 0)))))) u5 i).2).2).2).2).1, (w64 ((w64 ((w64 ((w64 ((w64 (k2 + 1)) + 1)) + 1)) + 1)) + 1)), ((((((at_ (0, (0, (0, (0, (0, (0, 0)))))) u5 i).2).2).2).2).2).2)) fun u6 =>
  grd (inb i u6) <|
  grd (inb i u6) <|
  letv (u6.set i.toNat ((at_ (0, (0, (0, (0, (0, (0, 0)))))) u6 i).1, ((at_ (0, (0, (0, (0, (0, (0, 0)))))) u6 i).2).1, (((at_ (0, (0, (0, (0, (0, (0, 0)))))) u6 i).2).2).1, ((((at_ (0, (0, (0, (0, (0, (0, 0)))))) u6 i).2).2).2).1, (((((at_ (0, (0, (0, (0, (0, (0, 0)))))) u6 i).2).2).2).2).1, ((((((at_ (0, (0, (0, (0, (0, (0, 0)))))) u6 i).2).2).2).2).2).1, (w64 ((w64 ((w64 ((w64 ((w64 ((w64 (k2 + 1)) + 1)) + 1)) + 1)) + 1)) + 1)))) fun u7 =>
  rec_ u7 (w64 ((w64 ((w64 ((w64 ((w64 ((w64 ((w64 (k2 + 1)) + 1)) + 1)) + 1)) + 1)) + 1)) + 1)) (w64 (i + 1))
 else
 some (a2, k2)
def laws_markDenialConstraintS_l0 (N : Nat) : Nat → (List (Int × Int × Int × Int × Int × Int × Int)) → Int → Int → Option ((List (Int × Int × Int × Int × Int × Int × Int)) × Int)
 | 0, _, _, _ => none
 | k_ + 1, a2, k2, i => laws_markDenialConstraintS_l0_b N (laws_markDenialConstraintS_l0 N k_) a2 k2 i
def laws_markDenialConstraintS_b (N : Nat) (laws_markDenialConstraintS_l0S : (List (Int × Int × Int × Int × Int × Int × Int)) → Int → Int → Option ((List (Int × Int × Int × Int × Int × Int × Int)) × Int)) (a : List (Int × Int × Int × Int × Int × Int × Int)) (k : Int) : Option ((List (Int × Int × Int × Int × Int × Int × Int)) × Int) :=
 laws_markDenialConstraintS_l0S a k 0
def laws_markDenialConstraintS (N : Nat) (a : List (Int × Int × Int × Int × Int × Int × Int)) (k : Int) : Option ((List (Int × Int × Int × Int × Int × Int × Int)) × Int) := laws_markDenialConstraintS_b N (laws_markDenialConstraintS_l0 N N) a k
def laws_heldIntS_l0_b (N : Nat) (rec_ : (List Int) → Int → Int → Option (Int)) (a2 : List Int) (k2 : Int) (i : Int) : Option (Int) :=
 bif decide (i < (a2.length : Int)) then
  grd (inb i a2) <|
  bif ((at_ 0 a2 i) != k2) then some (-1)
  else
  rec_ a2 (w64 (k2 + 1)) (w64 (i + 1))
 else
 some k2
def laws_heldIntS_l0 (N : Nat) : Nat → (List Int) → Int → Int → Option (Int)
 | 0, _, _, _ => none
 | k_ + 1, a2, k2, i => laws_heldIntS_l0_b N (laws_heldIntS_l0 N k_) a2 k2 i
def laws_heldIntS_b (N : Nat) (laws_heldIntS_l0S : (List Int) → Int → Int → Option (Int)) (a : List Int) (k : Int) : Option (Int) :=
 laws_heldIntS_l0S a k 0
def laws_heldIntS (N : Nat) (a : List Int) (k : Int) : Option (Int) := laws_heldIntS_b N (laws_heldIntS_l0 N N) a k
def laws_FnExactClosestRepair (N : Nat) (aDb : List (ByteArray × Int × Int) × List (Int × List Int)) (aConstraints : List (Int × Int × Int × Int × Int × Int × Int)) (aIndices : List Int) : Option (Bool) :=
 bif decide ((aIndices.length : Int) > 1048576) then some true
 else
 (laws_szDatabase N aDb 1048576).bind fun r =>
 bif decide (r < 0) then some true
 else
 (laws_szDenialConstraintS N aConstraints r).bind fun r2 =>
 bif decide (r2 < 0) then some true
 else
 (laws_toDatabase N aDb).bind fun r3 =>
 (laws_toDenialConstraintS N aConstraints).bind fun r4 =>
 (laws_toIntS N aIndices).bind fun r5 =>
 (spec_ClosestRepair N r3 r4 r5).bind fun p_r6 =>
 (laws_toDatabase N aDb).bind fun r8 =>
 (laws_toDenialConstraintS N aConstraints).bind fun r9 =>
 (laws_toIntS N aIndices).bind fun r10 =>
 (impl_ClosestRepair N r8 r9 r10).bind fun p_r11 =>
 (laws_eqIntS N p_r11.1 p_r6.1).bind fun r13 =>
 bif (!r13) then some false
 else
 bif (!(p_r11.2 == p_r6.2)) then some false
 else
 (laws_toDatabase N aDb).bind fun r14 =>
 (laws_eqDatabase N r8 r14).bind fun r15 =>
 bif (!r15) then some false
 else
 (laws_toDenialConstraintS N aConstraints).bind fun r16 =>
 (laws_eqDenialConstraintS N r9 r16).bind fun r17 =>
 bif (!r17) then some false
 else
 (laws_toIntS N aIndices).bind fun r18 =>
 (laws_eqIntS N r10 r18).bind fun r19 =>
 bif (!r19) then some false
 else
 (laws_markDatabase N r8 1).bind fun p_m =>
 (laws_markDenialConstraintS N r9 p_m.2).bind fun p_m2 =>
 (laws_markIntS N r10 p_m2.2).bind fun p_m3 =>
 bif decide (p_m3.2 < 0) then some false
 else
 (laws_eqIntS N p_r11.1 p_r6.1).bind fun r23 =>
 bif (!r23) then some false
 else
 bif (!(p_r11.2 == p_r6.2)) then some false
 else
 (laws_markIntS N p_r11.1 1).bind fun p_m4 =>
 (laws_heldIntS N p_m4.1 1).bind fun r25 =>
 bif decide (r25 < 0) then some false
 else
 bif (r25 != p_m4.2) then some false
 else
 (laws_toDatabase N aDb).bind fun r26 =>
 (laws_toDenialConstraintS N aConstraints).bind fun r27 =>
 (laws_toIntS N aIndices).bind fun r28 =>
 (impl_ClosestRepair N r26 r27 r28).bind fun p_r29 =>
 (laws_eqIntS N p_r29.1 p_r6.1).bind fun r31 =>
 bif (!r31) then some false
 else
 bif (!(p_r29.2 == p_r6.2)) then some false
 else
 (laws_heldIntS N p_m4.1 1).bind fun r32 =>
 bif decide (r32 < 0) then some false
 else
 bif (r32 != p_m4.2) then some false
 else
 some true
end Go.PL

/- The plain law, with all that it needs. Conditions: those that stand in each theorem. -/
namespace Go.PL
set_option linter.unusedVariables false
theorem w64_id {x : Int} (h1 : -9223372036854775808 ≤ x) (h2 : x ≤ 9223372036854775807) : w64 x = x := by
 unfold w64 IntKind.wrap
 simp [IntKind.bits, IntKind.signed]
 omega
theorem w64_succ {j : Nat} (h : j < 4611686018427387904) : w64 ((j : Int) + 1) = ((j + 1 : Nat) : Int) := by
 rw [w64_id (by omega) (by omega)]; omega
@[simp] theorem grd_true {α : Type} (x : Option α) : grd true x = x := rfl
@[simp] theorem grd_false {α : Type} (x : Option α) : grd false x = none := rfl
theorem grz_ne {α : Type} {b : Int} (h : b ≠ 0) (x : Option α) : grz b x = x := by simp [grz, h]
@[simp] theorem letv_eq {α β : Type} (v : α) (k : α → β) : letv v k = k v := rfl
theorem inb_nat {α : Type} (j : Nat) (xs : List α) : inb (j : Int) xs = decide (j < xs.length) := by
 simp [inb]
theorem inb_lt {α : Type} {j : Nat} {xs : List α} (h : j < xs.length) : inb (j : Int) xs = true := by simp [inb_nat, h]
theorem at_lt {α : Type} {d : α} {j : Nat} {xs : List α} (h : j < xs.length) : at_ d xs (j : Int) = xs[j] := by simp [at_, h]
theorem makeOk_lt {n : Nat} {b : Nat} (h : n * b ≤ 140737488355328) : makeOk (n : Int) b = true := by
 have h1 : (n : Int) * (b : Int) ≤ 140737488355328 := by rw [← Int.natCast_mul]; omega
 have h2 : (0 : Int) ≤ n := by omega
 simp only [makeOk, h1, h2, decide_true, Bool.and_self]

theorem bytes_loop (bs : ByteArray) : ∀ (m i : Nat) (r : List UInt8), bs.size - i = m → ByteArray.toList.loop bs i r = r.reverse ++ bs.data.toList.drop i
 | 0, i, r, h => by
  have hs : bs.data.toList.length = bs.size := rfl
  unfold ByteArray.toList.loop
  rw [if_neg (by omega), List.drop_of_length_le (by omega)]; simp
 | m + 1, i, r, h => by
  have hs : bs.data.toList.length = bs.size := rfl
  unfold ByteArray.toList.loop
  rw [if_pos (by omega), bytes_loop bs m (i + 1) _ (by omega)]
  have hi : i < bs.data.toList.length := by omega
  rw [List.drop_eq_getElem_cons hi]
  have hi2 : i < bs.data.size := by simpa using hi
  have : bs.get! i = bs.data.toList[i] := by
   show bs.data[i]! = _
   rw [getElem!_pos bs.data i hi2]; simp
  rw [this]; simp
theorem bytes_toList (bs : ByteArray) : bs.toList = bs.data.toList := by
 unfold ByteArray.toList; rw [bytes_loop bs _ 0 [] rfl]; simp
theorem seq_eq (a b : ByteArray) : seq a b = decide (a = b) := by
 unfold seq
 rw [bytes_toList, bytes_toList]
 by_cases h : a = b
 ·subst h; simp
 ·have : ¬ a.data = b.data := fun h2 => h (ByteArray.ext h2)
  simp [h, this]

theorem bneI (a b : Int) : (a != b) = !decide (a = b) := by by_cases h : a = b <;> simp [h]
theorem beqI (a b : Int) : (a == b) = decide (a = b) := by by_cases h : a = b <;> simp [h]
theorem ite_dec {p : Prop} [Decidable p] {α : Type} (x y : Option α) : (bif !decide p then x else y) = if decide p then y else x := by by_cases h : p <;> simp [h]

/-- A loop: what holds at each round's start, and what goes down; what comes out. -/
theorem loop {σ R : Type} (f : Nat → σ → Option R) (I : σ → Prop) (μ : σ → Nat) (Q : Option R → Prop) (hstep : ∀ k s, I s → Q (f (k + 1) s) ∨ ∃ s', I s' ∧ μ s' < μ s ∧ f (k + 1) s = f k s') : ∀ (k : Nat) (s : σ), μ s < k → I s → Q (f k s)
 | 0, s, hk, hs => by omega
 | k + 1, s, hk, hs => by
  rcases hstep k s hs with h | ⟨s', h1, h2, h3⟩
  ·exact h
  ·rw [h3]
   exact loop f I μ Q hstep k s' (by omega) h1

theorem take_succ_set {α : Type} {out a : List α} {j : Nat} {y : α} (h1 : j < a.length) (h2 : j < out.length) (ht : out.take j = a.take j) (hy : y = a[j]) : (out.set j y).take (j + 1) = a.take (j + 1) := by
 subst hy
 rw [List.take_set, List.take_succ_eq_append_getElem h2, List.take_succ_eq_append_getElem h1, ht]
 simp [List.set_append_right, List.length_take, Nat.min_eq_left (Nat.le_of_lt h1)]

/-- A loop that fills a row. -/
theorem fill {β : Type} {b : List β} (f : Nat → List β → Int → Option (List β)) (hend : ∀ k out, f (k + 1) out (b.length : Int) = some out)
  (hstep : ∀ k out j (h : j < b.length), out.length = b.length → f (k + 1) out (j : Int) = f k (out.set j b[j]) ((j + 1 : Nat) : Int)) {k : Nat} (hk : b.length < k) {out : List β} (ho : out.length = b.length) : f k out 0 = some b := by
 have := loop (fun k (s : List β × Nat) => f k s.1 (s.2 : Int)) (fun s => s.1.length = b.length ∧ s.2 ≤ b.length ∧ s.1.take s.2 = b.take s.2) (fun s => b.length - s.2) (fun o => o = some b) (fun k s hs => by
  obtain ⟨out, j⟩ := s
  obtain ⟨h1, h2, h3⟩ := hs
  simp only at h1 h2 h3 ⊢
  by_cases hj : j < b.length
  ·right
   exact ⟨(out.set j b[j], j + 1), ⟨by simp [h1], hj, take_succ_set hj (by omega) h3 rfl⟩, by simp only; omega, hstep k out j hj h1⟩
  ·left
   have : j = b.length := by omega
   subst this
   rw [hend, ← List.take_of_length_le (Nat.le_of_eq h1), h3, List.take_length]) k (out, 0) (by simpa using hk) ⟨ho, by simp, by simp⟩
 exact this
/-- A loop that asks something of each index. -/
theorem every {n : Nat} (p : Nat → Bool) (f : Nat → Int → Option Bool) (hend : ∀ k, f (k + 1) (n : Int) = some true) (hstep : ∀ k j, j < n → f (k + 1) (j : Int) = if p j then f k ((j + 1 : Nat) : Int) else some false) {k : Nat} (hk : n < k) : f k 0 = some (decide (∀ j, j < n → p j = true)) := by
 have := loop (fun k (j : Nat) => f k (j : Int)) (fun j => j ≤ n ∧ ∀ i, i < j → p i = true) (fun j => n - j) (fun o => o = some (decide (∀ j, j < n → p j = true))) (fun k j hs => by
  obtain ⟨h1, h2⟩ := hs
  by_cases hj : j < n
  ·rw [hstep k j hj]
   cases hp : p j with
   | true =>
    right
    exact ⟨j + 1, ⟨hj, fun i hi => by rcases Nat.lt_or_eq_of_le (Nat.le_of_lt_succ hi) with h | h; exact h2 i h; rw [h]; exact hp⟩, by omega, by simp⟩
   | false =>
    left
    have : ¬ ∀ j, j < n → p j = true := fun h => by have := h j hj; rw [hp] at this; simp at this
    simp [this]
  ·left
   have : j = n := by omega
   subst this
   rw [hend]
   simp only [Option.some.injEq]
   symm
   simpa using h2) k 0 (by simpa using hk) ⟨by omega, by omega⟩
 exact this
/-- A loop that asks something of each index, and says e behind it. -/
theorem everyE {R : Type} {n : Nat} (p : Nat → Bool) (no e : Option R) (f : Nat → Int → Option R) (hend : ∀ k, f (k + 1) (n : Int) = e) (hstep : ∀ k j, j < n → f (k + 1) (j : Int) = if p j then f k ((j + 1 : Nat) : Int) else no) {k : Nat} (hk : n < k) : f k 0 = if ∀ j, j < n → p j = true then e else no := by
 have := loop (fun k (j : Nat) => f k (j : Int)) (fun j => j ≤ n ∧ ∀ i, i < j → p i = true) (fun j => n - j) (fun o => o = if ∀ j, j < n → p j = true then e else no) (fun k j hs => by
  obtain ⟨h1, h2⟩ := hs
  by_cases hj : j < n
  ·rw [hstep k j hj]
   cases hp : p j with
   | true =>
    right
    exact ⟨j + 1, ⟨hj, fun i hi => by rcases Nat.lt_or_eq_of_le (Nat.le_of_lt_succ hi) with h | h; exact h2 i h; rw [h]; exact hp⟩, by omega, by simp⟩
   | false =>
    left
    have : ¬ ∀ j, j < n → p j = true := fun h => by have := h j hj; rw [hp] at this; simp at this
    simp [this]
  ·left
   have : j = n := by omega
   subst this
   rw [hend, if_pos h2]) k 0 (by simpa using hk) ⟨by omega, by omega⟩
 exact this
/-- A loop that looks for the first index of which something holds. -/
theorem first {n : Nat} (p : Nat → Bool) (f : Nat → Int → Option Int) (hend : ∀ k, f (k + 1) (n : Int) = some (-1)) (hstep : ∀ k j, j < n → f (k + 1) (j : Int) = if p j then some (j : Int) else f k ((j + 1 : Nat) : Int)) {k : Nat} (hk : n < k) :
  (∃ j, j < n ∧ p j = true ∧ (∀ i, i < j → p i = false) ∧ f k 0 = some (j : Int)) ∨ ((∀ i, i < n → p i = false) ∧ f k 0 = some (-1)) := by
 have := loop (fun k (j : Nat) => f k (j : Int)) (fun j => j ≤ n ∧ ∀ i, i < j → p i = false) (fun j => n - j) (fun o => (∃ j, j < n ∧ p j = true ∧ (∀ i, i < j → p i = false) ∧ o = some (j : Int)) ∨ ((∀ i, i < n → p i = false) ∧ o = some (-1))) (fun k j hs => by
  obtain ⟨h1, h2⟩ := hs
  by_cases hj : j < n
  ·rw [hstep k j hj]
   cases hp : p j with
   | true => left; left; exact ⟨j, hj, hp, h2, rfl⟩
   | false =>
    right
    exact ⟨j + 1, ⟨hj, fun i hi => by rcases Nat.lt_or_eq_of_le (Nat.le_of_lt_succ hi) with h | h; exact h2 i h; rw [h]; exact hp⟩, by omega, by simp⟩
  ·left; right
   have : j = n := by omega
   subst this
   exact ⟨h2, hend k⟩) k 0 (by simpa using hk) ⟨by omega, by omega⟩
 exact this
theorem w64_pred {j : Nat} (h : 0 < j) (h2 : j < 4611686018427387904) : w64 ((j : Int) - 1) = ((j - 1 : Nat) : Int) := by
 rw [w64_id (by omega) (by omega)]; omega
theorem inb_int {α : Type} {i : Int} {xs : List α} (h0 : 0 ≤ i) (h : i < xs.length) : inb i xs = true := by simp [inb, h0, h]
theorem at_int {α : Type} {d : α} {i : Int} {xs : List α} (h0 : 0 ≤ i) (h : i < xs.length) : at_ d xs i = xs[i.toNat]'(by omega) := by
 unfold at_
 rw [List.getD_eq_getElem?_getD, List.getElem?_eq_getElem (by omega)]
 rfl
end Go.PL
namespace Go.PL
set_option linter.unusedVariables false
abbrev Rel := ByteArray × Int × Int
abbrev Fact := Int × List Int
abbrev Db := List Rel × List Fact

/-- Small enough for every copy. -/
structure SmallDb (d : Db) : Prop where
 rels : d.1.length ≤ 1048576
 facts : d.2.length ≤ 1048576
 vals : ∀ f ∈ d.2, f.2.length ≤ 1048576
theorem list_eq_iff {α : Type} [DecidableEq α] {a b : List α} (h : a.length = b.length) : (a = b) ↔ ∀ j, j < a.length → (decide (a[j]? = b[j]?)) = true := by
 constructor
 ·rintro rfl j _; simp
 ·intro h2
  apply List.ext_getElem? 
  intro j
  by_cases hj : j < a.length
  ·simpa using h2 j hj
  ·rw [List.getElem?_eq_none (by omega), List.getElem?_eq_none (by omega)]
end Go.PL
namespace Go.PL
set_option linter.unusedVariables false
theorem l1In (N : Nat) (x a b : Int) : spec_l1In N x a b = some (decide (a ≤ x ∧ x ≤ b)) := by
 unfold spec_l1In
 by_cases h : a ≤ x <;> simp [h]
theorem within (N : Nat) (x a b : Int) : impl_within N x a b = some (decide (a ≤ x ∧ x ≤ b)) := by
 unfold impl_within
 by_cases h : a ≤ x <;> simp [h]

def validRel (r : Rel) : Bool := (spec_IsValidRelation 0 r).getD false
theorem specRel (N : Nat) (r : Rel) : spec_IsValidRelation N r = some (validRel r) := by
 have key : ∃ b, spec_IsValidRelation 0 r = some b := by
  unfold spec_IsValidRelation
  by_cases h : r.1.size = 1
  ·have hb : ∃ b, byteAt r.1 0 = some b := by
    unfold byteAt
    have : (0 : Int).toNat < r.1.size := by omega
    exact ⟨r.1[(0 : Int).toNat], by rw [if_pos (by omega), getElem?_pos]⟩
   obtain ⟨b, hb⟩ := hb
   rw [hb]
   simp only [Option.bind_some, l1In]
   cases ((r.1.size : Int) == 1) with
   | false => exact ⟨_, rfl⟩
   | true =>
    cases decide ((b.toNat : Int) ≥ 97) with
    | false => exact ⟨_, rfl⟩
    | true =>
     cases decide ((b.toNat : Int) ≤ 122) with
     | false => exact ⟨_, rfl⟩
     | true =>
      cases decide (1 ≤ r.2.1 ∧ r.2.1 ≤ 3) with
      | false => exact ⟨_, rfl⟩
      | true => exact ⟨_, rfl⟩
  ·have h0 : ((r.1.size : Int) == 1) = false := by rw [beqI]; simp; omega
   rw [h0]; exact ⟨false, rfl⟩
 obtain ⟨b, hb⟩ := key
 have e : spec_IsValidRelation N r = spec_IsValidRelation 0 r := by
  unfold spec_IsValidRelation; simp only [l1In]
 rw [e, validRel, hb]; rfl
theorem implRel (N : Nat) (r : Rel) : impl_IsValidRelation N r = some (validRel r) := by
 rw [← specRel N r]
 unfold impl_IsValidRelation spec_IsValidRelation
 simp only [l1In, within]

def validRels (l : List Rel) : Bool := decide ((∀ j, j < l.length → (validRel (l.getD j (⟨#[]⟩, 0, 0)) && (decide (j = 0) || slt (l.getD (j - 1) (⟨#[]⟩, 0, 0)).1 (l.getD j (⟨#[]⟩, 0, 0)).1)) = true) ∧ l.length ≤ 4)
theorem getD_lt {α : Type} {d : α} {j : Nat} {xs : List α} (h : j < xs.length) : xs.getD j d = xs[j] := by simp [h]
theorem specRels {N : Nat} {l : List Rel} (hl : l.length ≤ 1048576) (hN : 1048576 < N) : spec_AreValidRelations N l = some (validRels l) := by
 unfold spec_AreValidRelations spec_AreValidRelations_b
 rw [everyE (n := l.length) (fun j => validRel (l.getD j (⟨#[]⟩, 0, 0)) && (decide (j = 0) || slt (l.getD (j - 1) (⟨#[]⟩, 0, 0)).1 (l.getD j (⟨#[]⟩, 0, 0)).1)) (some false) (some (decide (l.length ≤ 4))) (fun k i => spec_AreValidRelations_l0 N k l i)
  (fun k => by simp [spec_AreValidRelations_l0, spec_AreValidRelations_l0_b]; omega) (fun k j hj => ?_) (by omega)]
 ·unfold validRels
  by_cases h : ∀ j, j < l.length → (validRel (l.getD j (⟨#[]⟩, 0, 0)) && (decide (j = 0) || slt (l.getD (j - 1) (⟨#[]⟩, 0, 0)).1 (l.getD j (⟨#[]⟩, 0, 0)).1)) = true
  ·rw [if_pos h]; congr 1; exact decide_eq_decide.2 ⟨fun h2 => ⟨h, h2⟩, fun h2 => h2.2⟩
  ·rw [if_neg h]; congr 1; symm; exact decide_eq_false fun h2 => h h2.1
 ·have h1 : (j : Int) < (l.length : Int) := by omega
  simp only [spec_AreValidRelations_l0, spec_AreValidRelations_l0_b, h1, decide_true, cond_true, inb_lt hj, grd_true, at_lt hj, specRel, Option.bind_some, getD_lt hj, w64_succ (show j < 4611686018427387904 by omega)]
  cases validRel l[j] with
  | false => rfl
  | true =>
   simp only [Bool.not_true, cond_false, Bool.true_and]
   by_cases h0 : j = 0
   ·subst h0; simp
   ·have h3 : (j : Int) > 0 := by omega
    have h4 : j - 1 < l.length := by omega
    simp only [h3, decide_true, cond_true, w64_pred (show 0 < j by omega) (by omega), inb_lt h4, grd_true, at_lt h4, h0, decide_false, Bool.false_or, getD_lt h4]
    cases slt l[j - 1].1 l[j].1 <;> rfl
theorem implRels {N : Nat} {l : List Rel} (hl : l.length ≤ 1048576) (hN : 1048576 < N) : impl_AreValidRelations N l = some (validRels l) := by
 rw [← specRels hl hN]
 unfold impl_AreValidRelations impl_AreValidRelations_b spec_AreValidRelations spec_AreValidRelations_b
 rw [everyE (n := l.length) (fun j => validRel (l.getD j (⟨#[]⟩, 0, 0)) && (decide (j = 0) || slt (l.getD (j - 1) (⟨#[]⟩, 0, 0)).1 (l.getD j (⟨#[]⟩, 0, 0)).1)) (some false) (some (decide (l.length ≤ 4))) (fun k i => spec_AreValidRelations_l0 N k l i)
  (fun k => by simp [spec_AreValidRelations_l0, spec_AreValidRelations_l0_b]; omega) (fun k j hj => ?_) (by omega),
  everyE (n := l.length) (fun j => validRel (l.getD j (⟨#[]⟩, 0, 0)) && (decide (j = 0) || slt (l.getD (j - 1) (⟨#[]⟩, 0, 0)).1 (l.getD j (⟨#[]⟩, 0, 0)).1)) (some false) (some (decide (l.length ≤ 4))) (fun k i => impl_AreValidRelations_l0 N k l l (l.length : Int) i)
  (fun k => by simp [impl_AreValidRelations_l0, impl_AreValidRelations_l0_b]; omega) (fun k j hj => ?_) (by omega)]
 ·have h1 : (j : Int) < (l.length : Int) := by omega
  simp only [impl_AreValidRelations_l0, impl_AreValidRelations_l0_b, h1, decide_true, cond_true, inb_lt hj, grd_true, at_lt hj, implRel, Option.bind_some, getD_lt hj, w64_succ (show j < 4611686018427387904 by omega)]
  cases validRel l[j] with
  | false => rfl
  | true =>
   simp only [Bool.not_true, cond_false, Bool.true_and]
   by_cases h0 : j = 0
   ·subst h0; simp
   ·have h3 : (j : Int) > 0 := by omega
    have h4 : j - 1 < l.length := by omega
    simp only [h3, decide_true, cond_true, w64_pred (show 0 < j by omega) (by omega), inb_lt h4, grd_true, at_lt h4, h0, decide_false, Bool.false_or, getD_lt h4]
    cases slt l[j - 1].1 l[j].1 <;> rfl
 ·have h1 : (j : Int) < (l.length : Int) := by omega
  simp only [spec_AreValidRelations_l0, spec_AreValidRelations_l0_b, h1, decide_true, cond_true, inb_lt hj, grd_true, at_lt hj, specRel, Option.bind_some, getD_lt hj, w64_succ (show j < 4611686018427387904 by omega)]
  cases validRel l[j] with
  | false => rfl
  | true =>
   simp only [Bool.not_true, cond_false, Bool.true_and]
   by_cases h0 : j = 0
   ·subst h0; simp
   ·have h3 : (j : Int) > 0 := by omega
    have h4 : j - 1 < l.length := by omega
    simp only [h3, decide_true, cond_true, w64_pred (show 0 < j by omega) (by omega), inb_lt h4, grd_true, at_lt h4, h0, decide_false, Bool.false_or, getD_lt h4]
    cases slt l[j - 1].1 l[j].1 <;> rfl

def validVals (xs : List Int) : Bool := xs.all fun x => decide (0 ≤ x ∧ x ≤ 9)
theorem all_iff {α : Type} {d : α} {xs : List α} {p : α → Bool} : (∀ j, j < xs.length → p (xs.getD j d) = true) ↔ xs.all p = true := by
 rw [List.all_eq_true]
 constructor
 ·intro h x hx
  obtain ⟨i, hi, rfl⟩ := List.mem_iff_getElem.1 hx
  have := h i hi
  rwa [getD_lt hi] at this
 ·intro h j hj
  rw [getD_lt hj]
  exact h _ (List.getElem_mem hj)
/-- A fact's own part: its relation, its length, its values. -/
def fact1 (l : List Rel) (f : Fact) : Bool := decide (0 ≤ f.1 ∧ f.1 ≤ (l.length : Int) - 1) && (decide ((f.2.length : Int) = (l.getD f.1.toNat (⟨#[]⟩, 0, 0)).2.1) && validVals f.2)
theorem specFact {N : Nat} {l : List Rel} {f : Fact} (hl : l.length ≤ 1048576) (hf : f.2.length ≤ 1048576) (hN : 1048576 < N) : spec_IsValidFact N l f = some (validRels l && fact1 l f) := by
 obtain ⟨r, v⟩ := f
 unfold spec_IsValidFact spec_IsValidFact_b
 rw [specRels hl hN, Option.bind_some]
 cases validRels l with
 | false => rfl
 | true =>
  simp only [Bool.not_true, cond_false, l1In, Option.bind_some, Bool.true_and, fact1]
  rw [w64_id (by omega) (by omega)]
  by_cases h : 0 ≤ r ∧ r ≤ (l.length : Int) - 1
  ·have h2 : r.toNat < l.length := by omega
   simp only [h, and_self, decide_true, Bool.not_true, cond_false, inb_int h.1 (show r < l.length by omega), grd_true, at_int h.1 (show r < l.length by omega), bneI, getD_lt h2, Bool.true_and]
   by_cases h3 : (v.length : Int) = l[r.toNat].2.1
   ·simp only [h3, decide_true, Bool.not_true, cond_false, Bool.true_and]
    rw [everyE (n := v.length) (fun j => decide (0 ≤ v.getD j 0 ∧ v.getD j 0 ≤ 9)) (some false) (some true) (fun k i => spec_IsValidFact_l0 N k r v i) (fun k => by simp [spec_IsValidFact_l0, spec_IsValidFact_l0_b]) (fun k j hj => ?_) (by simp only at hf; omega)]
    ·unfold validVals
     by_cases h4 : ∀ j, j < v.length → decide (0 ≤ v.getD j 0 ∧ v.getD j 0 ≤ 9) = true
     ·rw [if_pos h4, (all_iff (d := (0 : Int)) (p := fun x => decide (0 ≤ x ∧ x ≤ 9))).1 h4]
     ·rw [if_neg h4]
      congr 1; symm
      rw [Bool.eq_false_iff]
      exact fun h5 => h4 ((all_iff (d := (0 : Int)) (p := fun x => decide (0 ≤ x ∧ x ≤ 9))).2 h5)
    ·have h1 : (j : Int) < (v.length : Int) := by omega
     simp only at hf
     simp only [spec_IsValidFact_l0, spec_IsValidFact_l0_b, h1, decide_true, cond_true, inb_lt hj, grd_true, at_lt hj, l1In, Option.bind_some, getD_lt hj, w64_succ (show j < 4611686018427387904 by omega), ite_dec]
   ·simp only [h3, decide_false, Bool.not_false, cond_true, Bool.false_and]
  ·simp only [h, decide_false, Bool.not_false, cond_true, Bool.false_and]

def cmpInts : List Int → List Int → Int
 | [], [] => 0
 | [], _ :: _ => -1
 | _ :: _, [] => 1
 | a :: x, b :: y => if a < b then -1 else if a > b then 1 else cmpInts x y
theorem cmpInts_eq : ∀ (a b : List Int), cmpInts a b = 0 ↔ a = b
 | [], [] => by simp [cmpInts]
 | [], _ :: _ => by simp [cmpInts]
 | _ :: _, [] => by simp [cmpInts]
 | a :: x, b :: y => by
  simp only [cmpInts, List.cons.injEq]
  split
  ·rename_i h; constructor
   ·intro h; omega
   ·intro h2; omega
  ·split
   ·rename_i h; constructor
    ·intro h; omega
    ·intro h2; omega
   ·rw [cmpInts_eq x y]
    constructor
    ·intro h; exact ⟨by omega, h⟩
    ·intro h; exact h.2
theorem specInts {N : Nat} {a b : List Int} (ha : a.length ≤ 1048576) (hb : b.length ≤ 1048576) (hN : 1048576 < N) : spec_l3Ints N a b = some (cmpInts a b) := by
 unfold spec_l3Ints spec_l3Ints_b
 have := loop (fun k (j : Nat) => spec_l3Ints_l0 N k a b (j : Int)) (fun j => j ≤ a.length ∧ j ≤ b.length ∧ cmpInts (a.drop j) (b.drop j) = cmpInts a b) (fun j => a.length - j) (fun o => o = some (cmpInts a b)) (fun k j hs => by
  obtain ⟨h1, h2, h3⟩ := hs
  by_cases hj : j < a.length
  ·by_cases hjb : j < b.length
   ·have e1 : (j : Int) < (a.length : Int) := by omega
    have e2 : (j : Int) < (b.length : Int) := by omega
    simp only [spec_l3Ints_l0, spec_l3Ints_l0_b, e1, e2, decide_true, cond_true, inb_lt hj, inb_lt hjb, grd_true, at_lt hj, at_lt hjb, w64_succ (show j < 4611686018427387904 by omega)]
    rw [List.drop_eq_getElem_cons hj, List.drop_eq_getElem_cons hjb] at h3
    simp only [cmpInts] at h3
    by_cases hlt : a[j] < b[j]
    ·left; simp only [hlt, if_true, decide_true, cond_true] at h3 ⊢; rw [h3]
    ·by_cases hgt : a[j] > b[j]
     ·left; simp only [hlt, hgt, if_true, if_false, decide_true, decide_false, cond_true, cond_false] at h3 ⊢; rw [h3]
     ·right
      simp only [hlt, hgt, if_false, decide_false, cond_false] at h3 ⊢
      exact ⟨j + 1, ⟨by omega, by omega, h3⟩, by omega, rfl⟩
   ·left
    have e1 : (j : Int) < (a.length : Int) := by omega
    have e2 : ¬ (j : Int) < (b.length : Int) := by omega
    have e3 : ¬ (a.length : Int) < (b.length : Int) := by omega
    have e4 : (a.length : Int) > (b.length : Int) := by omega
    simp only [spec_l3Ints_l0, spec_l3Ints_l0_b, e1, e2, e3, e4, decide_true, decide_false, cond_true, cond_false]
    rw [List.drop_eq_getElem_cons hj, List.drop_of_length_le (l := b) (by omega)] at h3
    rw [← h3]; rfl
  ·left
   have hja : j = a.length := by omega
   have e1 : ¬ (j : Int) < (a.length : Int) := by omega
   simp only [spec_l3Ints_l0, spec_l3Ints_l0_b, e1, decide_false, cond_false]
   rw [List.drop_of_length_le (l := a) (by omega)] at h3
   by_cases hlt : a.length < b.length
   ·have e2 : (a.length : Int) < (b.length : Int) := by omega
    simp only [e2, decide_true, cond_true]
    rw [List.drop_eq_getElem_cons (by omega)] at h3
    rw [← h3]; rfl
   ·have e2 : ¬ (a.length : Int) < (b.length : Int) := by omega
    have e3 : ¬ (a.length : Int) > (b.length : Int) := by omega
    simp only [e2, e3, decide_false, cond_false]
    rw [List.drop_of_length_le (by omega)] at h3
    rw [← h3]; rfl) N 0 (by omega) ⟨by omega, by omega, rfl⟩
 exact this
theorem implInts {N : Nat} {a b : List Int} (ha : a.length ≤ 1048576) (hb : b.length ≤ 1048576) (hN : 1048576 < N) : slices_Compare_Lint_int N a b = some (cmpInts a b) := by
 have hc : ∀ x y : Int, cmp_Compare_int N x y = some (if x < y then -1 else if x > y then 1 else 0) := by
  intro x y
  simp only [cmp_Compare_int, cmp_isNaN_int, Option.bind_some, bneI, decide_true, Bool.not_true, cond_false]
  by_cases h1 : x < y
  ·simp [h1]
  ·by_cases h2 : x > y <;> simp [h1, h2]
 unfold slices_Compare_Lint_int slices_Compare_Lint_int_b
 have := loop (fun k (j : Nat) => slices_Compare_Lint_int_l0 N k a b a (a.length : Int) (j : Int)) (fun j => j ≤ a.length ∧ j ≤ b.length ∧ cmpInts (a.drop j) (b.drop j) = cmpInts a b) (fun j => a.length - j) (fun o => o = some (cmpInts a b)) (fun k j hs => by
  obtain ⟨h1, h2, h3⟩ := hs
  by_cases hj : j < a.length
  ·have e1 : (j : Int) < (a.length : Int) := by omega
   by_cases hjb : j < b.length
   ·have e2 : ¬ (j : Int) ≥ (b.length : Int) := by omega
    simp only [slices_Compare_Lint_int_l0, slices_Compare_Lint_int_l0_b, e1, e2, decide_true, decide_false, cond_true, cond_false, inb_lt hj, inb_lt hjb, grd_true, at_lt hj, at_lt hjb, w64_succ (show j < 4611686018427387904 by omega), hc, Option.bind_some]
    rw [List.drop_eq_getElem_cons hj, List.drop_eq_getElem_cons hjb] at h3
    simp only [cmpInts] at h3
    by_cases hlt : a[j] < b[j]
    ·left; simp only [hlt, if_true] at h3 ⊢; rw [← h3]; rfl
    ·by_cases hgt : a[j] > b[j]
     ·left; simp only [hlt, hgt, if_true, if_false] at h3 ⊢; rw [← h3]; rfl
     ·right
      simp only [hlt, hgt, if_false] at h3 ⊢
      exact ⟨j + 1, ⟨by omega, by omega, h3⟩, by omega, rfl⟩
   ·left
    have e2 : (j : Int) ≥ (b.length : Int) := by omega
    simp only [slices_Compare_Lint_int_l0, slices_Compare_Lint_int_l0_b, e1, e2, decide_true, cond_true, inb_lt hj, grd_true]
    rw [List.drop_eq_getElem_cons hj, List.drop_of_length_le (l := b) (by omega)] at h3
    rw [← h3]; rfl
  ·left
   have e1 : ¬ (j : Int) < (a.length : Int) := by omega
   simp only [slices_Compare_Lint_int_l0, slices_Compare_Lint_int_l0_b, e1, decide_false, cond_false]
   rw [List.drop_of_length_le (l := a) (by omega)] at h3
   by_cases hlt : a.length < b.length
   ·have e2 : (a.length : Int) < (b.length : Int) := by omega
    simp only [e2, decide_true, cond_true]
    rw [List.drop_eq_getElem_cons (by omega)] at h3
    rw [← h3]; rfl
   ·have e2 : ¬ (a.length : Int) < (b.length : Int) := by omega
    simp only [e2, decide_false, cond_false]
    rw [List.drop_of_length_le (by omega)] at h3
    rw [← h3]; rfl) N 0 (by omega) ⟨by omega, by omega, rfl⟩
 exact this
def cmpFacts (a b : Fact) : Int := if a.1 < b.1 then -1 else if a.1 > b.1 then 1 else cmpInts a.2 b.2
theorem specCmp {N : Nat} {a b : Fact} (ha : a.2.length ≤ 1048576) (hb : b.2.length ≤ 1048576) (hN : 1048576 < N) : spec_CompareFacts N a b = some (cmpFacts a b) := by
 unfold spec_CompareFacts cmpFacts
 rw [specInts ha hb hN]
 by_cases h1 : a.1 < b.1
 ·simp [h1]
 ·by_cases h2 : a.1 > b.1 <;> simp [h1, h2]
theorem implCmp {N : Nat} {a b : Fact} (ha : a.2.length ≤ 1048576) (hb : b.2.length ≤ 1048576) (hN : 1048576 < N) : impl_CompareFacts N a b = some (cmpFacts a b) := by
 unfold impl_CompareFacts cmpFacts impl_compare
 rw [implInts ha hb hN, bneI]
 by_cases h1 : a.1 < b.1
 ·have : ¬ a.1 = b.1 := by omega
  simp [h1, this]
 ·by_cases h2 : a.1 > b.1
  ·have : ¬ a.1 = b.1 := by omega
   simp [h1, h2, this]
  ·have : a.1 = b.1 := by omega
   simp [this]
theorem getD_any {α : Type} (d : α) {xs : List α} {p : α → Bool} : (∃ j, j < xs.length ∧ p (xs.getD j d) = true) ↔ xs.any p = true := by
 rw [List.any_eq_true]
 constructor
 ·rintro ⟨j, hj, h⟩
  rw [getD_lt hj] at h
  exact ⟨_, List.getElem_mem hj, h⟩
 ·rintro ⟨x, hx, h⟩
  obtain ⟨i, hi, rfl⟩ := List.mem_iff_getElem.1 hx
  exact ⟨i, hi, by rw [getD_lt hi]; exact h⟩
/-- 'Is there one of which it holds': the first index is not negative. -/
theorem contains_of {α : Type} {d : α} {xs : List α} {p : α → Bool} {g : Option Int} (h : (∃ j, j < xs.length ∧ p (xs.getD j d) = true ∧ (∀ i, i < j → p (xs.getD i d) = false) ∧ g = some (j : Int)) ∨ ((∀ i, i < xs.length → p (xs.getD i d) = false) ∧ g = some (-1))) : (g.bind fun r => some (decide (r ≥ 0))) = some (xs.any p) := by
 rcases h with ⟨j, h1, h2, _, rfl⟩ | ⟨h1, rfl⟩
 ·rw [(getD_any d).1 ⟨j, h1, h2⟩]
  simp
 ·have : xs.any p = false := by
   rw [Bool.eq_false_iff]
   intro h
   obtain ⟨j, hj, h2⟩ := (getD_any d).2 h
   rw [h1 j hj] at h2; simp at h2
  rw [this]; rfl

theorem areValues {N : Nat} {v : List Int} (hv : v.length ≤ 1048576) (hN : 1048576 < N) : impl_areValues N v = some (validVals v) := by
 unfold impl_areValues slices_ContainsFunc_Lint_int_areValues_c1 slices_IndexFunc_Lint_int_areValues_c1 slices_IndexFunc_Lint_int_areValues_c1_b
 rw [contains_of (d := (0 : Int)) (xs := v) (p := fun x => !decide (0 ≤ x ∧ x ≤ 9)) (first (n := v.length) (fun j => !decide (0 ≤ v.getD j 0 ∧ v.getD j 0 ≤ 9)) (fun k i => slices_IndexFunc_Lint_int_areValues_c1_l0 N k v (v.length : Int) i) (fun k => by simp [slices_IndexFunc_Lint_int_areValues_c1_l0, slices_IndexFunc_Lint_int_areValues_c1_l0_b]) (fun k j hj => ?_) (by omega))]
 ·simp only [Option.bind_some, validVals]
  rw [show (v.any fun x => !decide (0 ≤ x ∧ x ≤ 9)) = !(v.all fun x => decide (0 ≤ x ∧ x ≤ 9)) from (List.not_all_eq_any_not (l := v) (p := fun x => decide (0 ≤ x ∧ x ≤ 9))).symm, Bool.not_not]
 ·have h1 : (j : Int) < (v.length : Int) := by omega
  simp only [slices_IndexFunc_Lint_int_areValues_c1_l0, slices_IndexFunc_Lint_int_areValues_c1_l0_b, h1, decide_true, cond_true, inb_lt hj, grd_true, at_lt hj, impl_areValues_c1, within, Option.bind_some, getD_lt hj, w64_succ (show j < 4611686018427387904 by omega)]
  cases decide (0 ≤ v[j] ∧ v[j] ≤ 9) <;> rfl
theorem implFact1 {N : Nat} {l : List Rel} {f : Fact} (hl : l.length ≤ 1048576) (hf : f.2.length ≤ 1048576) (hN : 1048576 < N) : impl_isFact N l f = some (fact1 l f) := by
 obtain ⟨r, v⟩ := f
 simp only [impl_isFact, within, Option.bind_some, fact1]
 rw [w64_id (by omega) (by omega)]
 by_cases h : 0 ≤ r ∧ r ≤ (l.length : Int) - 1
 ·have h2 : r.toNat < l.length := by omega
  simp only [h, and_self, decide_true, cond_true, inb_int h.1 (show r < l.length by omega), grd_true, at_int h.1 (show r < l.length by omega), beqI, getD_lt h2, Bool.true_and]
  simp only at hf
  rw [areValues hf hN]
  cases decide ((v.length : Int) = l[r.toNat].2.1) <;> rfl
 ·simp only [h, decide_false, cond_false, Bool.false_and]

def factAt (d : Db) (j : Nat) : Fact := d.2.getD j (0, [])
def factsOk (d : Db) : Prop := ∀ j, j < d.2.length → (fact1 d.1 (factAt d j) && (decide (j = 0) || decide (cmpFacts (factAt d (j - 1)) (factAt d j) < 0))) = true
instance (d : Db) : Decidable (factsOk d) := by unfold factsOk; infer_instance
def validDb (d : Db) : Bool := validRels d.1 && (decide (d.2.length ≤ 14) && decide (factsOk d))
theorem specDb {N : Nat} {d : Db} (h : SmallDb d) (hN : 1048576 < N) : spec_IsValidDatabase N d = some (validDb d) := by
 have hv : ∀ j, j < d.2.length → (factAt d j).2.length ≤ 1048576 := fun j hj => by unfold factAt; rw [getD_lt hj]; exact h.vals _ (List.getElem_mem hj)
 unfold spec_IsValidDatabase spec_IsValidDatabase_b
 rw [everyE (n := d.2.length) (fun j => (validRels d.1 && fact1 d.1 (factAt d j)) && (decide (j = 0) || decide (cmpFacts (factAt d (j - 1)) (factAt d j) < 0))) (some false) (some (validRels d.1 && decide (d.2.length ≤ 14))) (fun k i => spec_IsValidDatabase_l0 N k d.1 d.2 i)
  (fun k => by
   simp only [spec_IsValidDatabase_l0, spec_IsValidDatabase_l0_b, Int.lt_irrefl, decide_false, cond_false, specRels h.rels hN, Option.bind_some]
   cases validRels d.1 with
   | false => rfl
   | true => simp only [cond_true, Bool.true_and, Option.some.injEq]; exact decide_eq_decide.2 (by omega)) (fun k j hj => ?_) (by have := h.facts; omega)]
 ·unfold validDb factsOk
  cases hr : validRels d.1 with
  | true =>
   simp only [Bool.true_and]
   by_cases h2 : ∀ j, j < d.2.length → (fact1 d.1 (factAt d j) && (decide (j = 0) || decide (cmpFacts (factAt d (j - 1)) (factAt d j) < 0))) = true
   ·rw [if_pos h2, decide_eq_true h2, Bool.and_true]
   ·rw [if_neg h2, decide_eq_false h2, Bool.and_false]
  | false => simp
 ·have h1 : (j : Int) < (d.2.length : Int) := by omega
  have hf := h.facts
  have ha : at_ (0, []) d.2 (j : Int) = factAt d j := by unfold factAt; rw [at_lt hj, getD_lt hj]
  simp only [spec_IsValidDatabase_l0, spec_IsValidDatabase_l0_b, h1, decide_true, cond_true, inb_lt hj, grd_true, ha, specFact h.rels (hv j hj) hN, Option.bind_some, w64_succ (show j < 4611686018427387904 by omega)]
  cases validRels d.1 && fact1 d.1 (factAt d j) with
  | false => rfl
  | true =>
   simp only [Bool.not_true, cond_false, Bool.true_and]
   by_cases h0 : j = 0
   ·subst h0; simp
   ·have h3 : (j : Int) > 0 := by omega
    have h4 : j - 1 < d.2.length := by omega
    have hb : at_ (0, []) d.2 ((j - 1 : Nat) : Int) = factAt d (j - 1) := by unfold factAt; rw [at_lt h4, getD_lt h4]
    simp only [h3, decide_true, cond_true, w64_pred (show 0 < j by omega) (by omega), inb_lt h4, grd_true, hb, specCmp (hv _ h4) (hv _ hj) hN, Option.bind_some, h0, decide_false, Bool.false_or]
    by_cases h5 : cmpFacts (factAt d (j - 1)) (factAt d j) < 0
    ·have : ¬ cmpFacts (factAt d (j - 1)) (factAt d j) ≥ 0 := by omega
     simp [h5, this]
    ·have : cmpFacts (factAt d (j - 1)) (factAt d j) ≥ 0 := by omega
     simp [h5, this]
theorem implDb {N : Nat} {d : Db} (h : SmallDb d) (hN : 1048576 < N) : impl_IsValidDatabase N d = some (validDb d) := by
 have hv : ∀ j, j < d.2.length → (factAt d j).2.length ≤ 1048576 := fun j hj => by unfold factAt; rw [getD_lt hj]; exact h.vals _ (List.getElem_mem hj)
 unfold impl_IsValidDatabase impl_IsValidDatabase_b
 rw [implRels h.rels hN, Option.bind_some]
 unfold validDb
 cases validRels d.1 with
 | false => rfl
 | true =>
  simp only [Bool.not_true, cond_false, Bool.true_and]
  by_cases h14 : d.2.length ≤ 14
  ·have : ¬ (d.2.length : Int) > 14 := by omega
   simp only [this, decide_false, cond_false, h14, decide_true, Bool.true_and]
   rw [everyE (n := d.2.length) (fun j => fact1 d.1 (factAt d j) && (decide (j = 0) || decide (cmpFacts (factAt d (j - 1)) (factAt d j) < 0))) (some false) (some true) (fun k i => impl_IsValidDatabase_l0 N k d.1 d.2 d.2 (d.2.length : Int) i)
    (fun k => by simp [impl_IsValidDatabase_l0, impl_IsValidDatabase_l0_b]) (fun k j hj => ?_) (by omega)]
   ·unfold factsOk
    by_cases h2 : ∀ j, j < d.2.length → (fact1 d.1 (factAt d j) && (decide (j = 0) || decide (cmpFacts (factAt d (j - 1)) (factAt d j) < 0))) = true
    ·rw [if_pos h2, decide_eq_true h2]
    ·rw [if_neg h2, decide_eq_false h2]
   ·have h1 : (j : Int) < (d.2.length : Int) := by omega
    have ha : at_ (0, []) d.2 (j : Int) = factAt d j := by unfold factAt; rw [at_lt hj, getD_lt hj]
    simp only [impl_IsValidDatabase_l0, impl_IsValidDatabase_l0_b, h1, decide_true, cond_true, inb_lt hj, grd_true, ha, implFact1 h.rels (hv j hj) hN, Option.bind_some, w64_succ (show j < 4611686018427387904 by omega)]
    cases fact1 d.1 (factAt d j) with
    | false => rfl
    | true =>
     simp only [Bool.not_true, cond_false, Bool.true_and]
     by_cases h0 : j = 0
     ·subst h0; simp
     ·have h3 : (j : Int) > 0 := by omega
      have h4 : j - 1 < d.2.length := by omega
      have hb : at_ (0, []) d.2 ((j - 1 : Nat) : Int) = factAt d (j - 1) := by unfold factAt; rw [at_lt h4, getD_lt h4]
      simp only [h3, decide_true, cond_true, w64_pred (show 0 < j by omega) (by omega), inb_lt h4, grd_true, hb, implCmp (hv _ h4) (hv _ hj) hN, Option.bind_some, h0, decide_false, Bool.false_or]
      by_cases h5 : cmpFacts (factAt d (j - 1)) (factAt d j) < 0
      ·have : ¬ cmpFacts (factAt d (j - 1)) (factAt d j) ≥ 0 := by omega
       simp [h5, this]
      ·have : cmpFacts (factAt d (j - 1)) (factAt d j) ≥ 0 := by omega
       simp [h5, this]
  ·have : (d.2.length : Int) > 14 := by omega
   simp [this, h14]
end Go.PL
namespace Go.PL
set_option linter.unusedVariables false
theorem cmpInts_trans : ∀ (a b c : List Int), cmpInts a b < 0 → cmpInts b c < 0 → cmpInts a c < 0
 | [], [], c, h, _ => by simp [cmpInts] at h
 | [], _ :: _, [], _, h => by simp [cmpInts] at h
 | [], _ :: _, _ :: _, _, _ => by simp [cmpInts]
 | _ :: _, [], c, h, _ => by simp [cmpInts] at h
 | _ :: _, _ :: _, [], _, h => by simp [cmpInts] at h
 | x :: a, y :: b, z :: c, h1, h2 => by
  simp only [cmpInts] at h1 h2 ⊢
  by_cases hxy : x < y
  ·by_cases hyz : y < z
   ·rw [if_pos (by omega)]; omega
   ·rw [if_neg hyz] at h2
    split at h2
    ·omega
    ·rw [if_pos (by omega)]; omega
  ·rw [if_neg hxy] at h1
   split at h1
   ·omega
   ·have : x = y := by omega
    subst this
    by_cases hyz : x < z
    ·rw [if_pos hyz]; omega
    ·rw [if_neg hyz] at h2 ⊢
     split at h2
     ·omega
     ·rename_i hg
      rw [if_neg hg]
      exact cmpInts_trans a b c h1 h2
theorem cmpFacts_trans {a b c : Fact} (h1 : cmpFacts a b < 0) (h2 : cmpFacts b c < 0) : cmpFacts a c < 0 := by
 unfold cmpFacts at h1 h2 ⊢
 by_cases hab : a.1 < b.1
 ·by_cases hbc : b.1 < c.1
  ·rw [if_pos (by omega)]; omega
  ·rw [if_neg hbc] at h2
   split at h2
   ·omega
   ·rw [if_pos (by omega)]; omega
 ·rw [if_neg hab] at h1
  split at h1
  ·omega
  ·by_cases hbc : b.1 < c.1
   ·rw [if_pos (by omega)]; omega
   ·rw [if_neg hbc] at h2
    split at h2
    ·omega
    ·rw [if_neg (by omega), if_neg (by omega)]
     exact cmpInts_trans _ _ _ h1 h2
section
variable (S : Nat → Nat → Bool)
def blk (n s : Nat) : List Nat := (List.range n).filter (S s)
def isSt (s : Nat) : Bool := (List.range s).all fun k => !S s k
def sts (n : Nat) : List Nat := (List.range n).filter (isSt S)
def B (n : Nat) : List (List Nat) := (sts S n).map (blk S n)
variable {S}
end
end Go.PL
namespace Go.PL
set_option linter.unusedVariables false
def keyLen (l : List Rel) (f : Fact) : Int := (l.getD f.1.toNat (⟨#[]⟩, 0, 0)).2.2
def keyOf (l : List Rel) (f : Fact) : List Int := f.2.take (keyLen l f).toNat
def sameK (l : List Rel) (a b : Fact) : Bool := decide (a.1 = b.1) && decide (keyOf l a = keyOf l b)

theorem validRel_key {r : Rel} (h : validRel r = true) : 0 ≤ r.2.2 ∧ r.2.2 ≤ r.2.1 := by
 unfold validRel spec_IsValidRelation at h
 by_cases h1 : r.1.size = 1
 ·have hb : ∃ b, byteAt r.1 0 = some b := by
   unfold byteAt
   have : (0 : Int).toNat < r.1.size := by omega
   exact ⟨r.1[(0 : Int).toNat], by rw [if_pos (by omega), getElem?_pos]⟩
  obtain ⟨b, hb⟩ := hb
  rw [hb] at h
  simp only [Option.bind_some, l1In] at h
  by_cases h2 : 0 ≤ r.2.2 ∧ r.2.2 ≤ r.2.1
  ·exact h2
  ·rw [decide_eq_false h2] at h
   exfalso
   revert h
   cases ((r.1.size : Int) == 1) <;> cases decide ((b.toNat : Int) ≥ 97) <;> cases decide ((b.toNat : Int) ≤ 122) <;> cases decide (1 ≤ r.2.1 ∧ r.2.1 ≤ 3) <;> simp
 ·have h0 : ((r.1.size : Int) == 1) = false := by rw [beqI]; simp; omega
  rw [h0] at h
  simp at h
theorem validRels_at {l : List Rel} (h : validRels l = true) {j : Nat} (hj : j < l.length) : validRel (l.getD j (⟨#[]⟩, 0, 0)) = true := by
 have := (of_decide_eq_true h).1 j hj
 rw [Bool.and_eq_true] at this
 exact this.1
structure GoodFact (l : List Rel) (f : Fact) : Prop where
 lo : 0 ≤ f.1
 hi : f.1 < (l.length : Int)
 len : (f.2.length : Int) = (l.getD f.1.toNat (⟨#[]⟩, 0, 0)).2.1
 k0 : 0 ≤ keyLen l f
 k1 : keyLen l f ≤ (f.2.length : Int)
theorem goodFact {l : List Rel} {f : Fact} (hl : validRels l = true) (hf : fact1 l f = true) : GoodFact l f := by
 unfold fact1 at hf
 rw [Bool.and_eq_true, Bool.and_eq_true, decide_eq_true_eq, decide_eq_true_eq] at hf
 obtain ⟨⟨h1, h2⟩, h3, h4⟩ := hf
 have := validRel_key (validRels_at hl (j := f.1.toNat) (by omega))
 exact ⟨h1, by omega, h3, this.1, by rw [h3]; exact this.2⟩

theorem implEqual {N : Nat} {a b : List Int} (ha : a.length ≤ 1048576) (hN : 1048576 < N) : slices_Equal_Lint_int N a b = some (decide (a = b)) := by
 unfold slices_Equal_Lint_int slices_Equal_Lint_int_b
 by_cases hl : a.length = b.length
 ·have : ((a.length : Int) != (b.length : Int)) = false := by rw [bneI]; simp; omega
  rw [this, cond_false, every (n := a.length) (fun j => decide (a[j]? = b[j]?)) (fun k i => slices_Equal_Lint_int_l0 N k a b (a.length : Int) i) (fun k => by simp [slices_Equal_Lint_int_l0, slices_Equal_Lint_int_l0_b]) (fun k j hj => ?_) (by omega)]
  ·congr 1
   exact decide_eq_decide.2 (list_eq_iff hl).symm
  ·have h1 : (j : Int) < (a.length : Int) := by omega
   have hjb : j < b.length := by omega
   simp only [slices_Equal_Lint_int_l0, slices_Equal_Lint_int_l0_b, h1, decide_true, cond_true, inb_lt hj, inb_lt hjb, grd_true, at_lt hj, at_lt hjb, w64_succ (show j < 4611686018427387904 by omega), bneI, List.getElem?_eq_getElem hj, List.getElem?_eq_getElem hjb, Option.some.injEq]
   by_cases h : a[j] = b[j] <;> simp [h]
 ·have : ((a.length : Int) != (b.length : Int)) = true := by rw [bneI]; simp; omega
  have hne : ¬ a = b := fun h => hl (by rw [h])
  rw [this, cond_true, decide_eq_false hne]

theorem subOk_true {lo hi : Int} {n : Nat} (h1 : 0 ≤ lo) (h2 : lo ≤ hi) (h3 : hi ≤ (n : Int)) : subOk lo hi n = true := by
 unfold subOk; rw [decide_eq_true h1, decide_eq_true h2, decide_eq_true h3]; rfl
theorem appOk_lt {α : Type} {s x : List α} {b : Nat} (hb : b ≤ 1000) (h : s.length + x.length ≤ 140737488355) : appOk s x b = true := by
 unfold appOk
 refine decide_eq_true ?_
 calc (s.length + x.length) * b ≤ 140737488355 * 1000 := Nat.mul_le_mul h hb
  _ ≤ _ := by omega
theorem specKey {N : Nat} {l : List Rel} {f : Fact} (hl : l.length ≤ 1048576) (hf : f.2.length ≤ 1048576) (hN : 1048576 < N) (hv : validRels l = true) (h1 : fact1 l f = true) : spec_KeyOf N l f = some (keyOf l f) := by
 have g := goodFact hv h1
 have e : (at_ (⟨#[]⟩, 0, 0) l f.1).2.2 = keyLen l f := rfl
 unfold spec_KeyOf
 rw [specFact hl hf hN, hv, h1, Option.bind_some, inb_int g.lo g.hi, grd_true]
 simp only [Bool.and_self, Bool.not_true, cond_false, e]
 rw [subOk_true (by omega) g.k0 g.k1, grd_true, appOk_lt (by omega) (by simp only [List.length_nil, List.length_take]; omega), grd_true]
 rfl
theorem specSame {N : Nat} {l : List Rel} {a b : Fact} (hl : l.length ≤ 1048576) (ha : a.2.length ≤ 1048576) (hb : b.2.length ≤ 1048576) (hN : 1048576 < N) (hv : validRels l = true) (h1 : fact1 l a = true) (h2 : fact1 l b = true) : spec_HaveSameKey N l a b = some (sameK l a b) := by
 unfold spec_HaveSameKey sameK
 rw [specFact hl ha hN, specFact hl hb hN, hv, h1, h2]
 simp only [Bool.and_self, Option.bind_some, cond_true, beqI]
 by_cases h : a.1 = b.1
 ·rw [decide_eq_true h, cond_true, specKey hl ha hN hv h1, specKey hl hb hN hv h2, Option.bind_some, Option.bind_some,
   specInts (by unfold keyOf; rw [List.length_take]; omega) (by unfold keyOf; rw [List.length_take]; omega) hN, Option.bind_some, Bool.true_and]
  congr 1
  exact decide_eq_decide.2 (cmpInts_eq _ _)
 ·rw [decide_eq_false h]; rfl
theorem implSame {N : Nat} {l : List Rel} {a b : Fact} (ha : a.2.length ≤ 1048576) (hb : b.2.length ≤ 1048576) (hN : 1048576 < N) (hv : validRels l = true) (h1 : fact1 l a = true) (h2 : fact1 l b = true) : impl_sameKey N l a b = some (sameK l a b) := by
 have g := goodFact hv h1
 have g' := goodFact hv h2
 have e : (at_ (⟨#[]⟩, 0, 0) l a.1).2.2 = keyLen l a := rfl
 unfold impl_sameKey sameK
 rw [bneI]
 by_cases h : a.1 = b.1
 ·have hk : keyLen l a = keyLen l b := by unfold keyLen; rw [h]
  rw [decide_eq_true h, Bool.not_true, cond_false, inb_int g.lo g.hi, grd_true, e]
  rw [subOk_true (by omega) g.k0 g.k1, grd_true, subOk_true (by omega) g.k0 (by have := g'.k1; rw [← hk] at this; exact this), grd_true, implEqual (by rw [List.length_take]; omega) hN, Option.bind_some, Bool.true_and]
  unfold keyOf
  rw [← hk]
 ·rw [decide_eq_false h]; rfl

def sameD (d : Db) (i k : Nat) : Bool := sameK d.1 (factAt d i) (factAt d k)
structure ValidDb (d : Db) : Prop where
 rels : validRels d.1 = true
 few : d.2.length ≤ 14
 fact : ∀ j, j < d.2.length → fact1 d.1 (factAt d j) = true
 lt : ∀ i k, i < k → k < d.2.length → cmpFacts (factAt d i) (factAt d k) < 0
theorem validDb_of {d : Db} (h : validDb d = true) : ValidDb d := by
 unfold validDb at h
 rw [Bool.and_eq_true, Bool.and_eq_true, decide_eq_true_eq, decide_eq_true_eq] at h
 obtain ⟨h1, h2, h3⟩ := h
 refine ⟨h1, h2, fun j hj => ?_, ?_⟩
 ·have := h3 j hj
  rw [Bool.and_eq_true] at this
  exact this.1
 ·have step : ∀ j, 0 < j → j < d.2.length → cmpFacts (factAt d (j - 1)) (factAt d j) < 0 := by
   intro j h0 hj
   have := h3 j hj
   rw [Bool.and_eq_true, Bool.or_eq_true, decide_eq_true_eq, decide_eq_true_eq] at this
   rcases this.2 with h | h
   ·omega
   ·exact h
  intro i k
  induction k with
  | zero => intro h; omega
  | succ k ih =>
   intro hik hk
   have hs := step (k + 1) (by omega) hk
   rw [Nat.add_sub_cancel] at hs
   by_cases h : i = k
   ·subst h; exact hs
   ·exact cmpFacts_trans (ih (by omega) (by omega)) hs
end Go.PL
namespace Go.PL
set_option linter.unusedVariables false
theorem fact_at {d : Db} {k : Nat} (hk : k < d.2.length) : at_ (0, []) d.2 (k : Int) = factAt d k := by unfold factAt; rw [at_lt hk, getD_lt hk]
end Go.PL
namespace Go.PL
set_option linter.unusedVariables false
end Go.PL
namespace Go.PL
set_option linter.unusedVariables false
end Go.PL
namespace Go.PL
set_option linter.unusedVariables false
end Go.PL
namespace Go.PL
set_option linter.unusedVariables false
end Go.PL
namespace Go.PL
set_option linter.unusedVariables false
def one (p : Int → Bool) (x : Int) : Int := if p x then 1 else 0
end Go.PL
namespace Go.PL
set_option linter.unusedVariables false
theorem validRel_ar {r : Rel} (h : validRel r = true) : 1 ≤ r.2.1 ∧ r.2.1 ≤ 3 := by
 unfold validRel spec_IsValidRelation at h
 by_cases h1 : r.1.size = 1
 ·have hb : ∃ b, byteAt r.1 0 = some b := by
   unfold byteAt
   have : (0 : Int).toNat < r.1.size := by omega
   exact ⟨r.1[(0 : Int).toNat], by rw [if_pos (by omega), getElem?_pos]⟩
  obtain ⟨b, hb⟩ := hb
  rw [hb] at h
  simp only [Option.bind_some, l1In] at h
  by_cases h2 : 1 ≤ r.2.1 ∧ r.2.1 ≤ 3
  ·exact h2
  ·rw [decide_eq_false h2] at h
   exfalso
   revert h
   cases ((r.1.size : Int) == 1) <;> cases decide ((b.toNat : Int) ≥ 97) <;> cases decide ((b.toNat : Int) ≤ 122) <;> simp
 ·have h0 : ((r.1.size : Int) == 1) = false := by rw [beqI]; simp; omega
  rw [h0] at h
  simp at h
end Go.PL
namespace Go.PL
set_option linter.unusedVariables false
set_option linter.unusedSimpArgs false
def in_int (x : Int) : Prop := IntKind.min .i64 ≤ x ∧ x ≤ IntKind.max .i64
def in_str (x : ByteArray) : Prop := x.size ≤ 9223372036854775807
def s_str (x : ByteArray) : Nat := x.size
def b_str (x : ByteArray) : Prop := x.size ≤ 1048576
theorem b_of_str {x : ByteArray} (h : s_str x ≤ 1048576) : b_str x := h
theorem bneB (a b : Bool) : (a != b) = !decide (a = b) := by cases a <;> cases b <;> rfl
theorem beqB (a b : Bool) : (a == b) = decide (a = b) := by cases a <;> cases b <;> rfl
theorem list_eq_iff' {α : Type} [DecidableEq α] {a b : List α} (h : a.length = b.length) : (a = b) ↔ ∀ j, j < a.length → (decide (a[j]? = b[j]?)) = true := by
 constructor
 ·rintro rfl j _; simp
 ·intro h2
  apply List.ext_getElem?
  intro j
  by_cases hj : j < a.length
  ·simpa using h2 j hj
  ·rw [List.getElem?_eq_none (by omega), List.getElem?_eq_none (by omega)]
/-- How much of what is left is taken. -/
def sub1 (l : Int) (s : Nat) : Int := if (s : Int) ≤ l then l - s else -1
theorem sub1_pos {l : Int} {s : Nat} (h : (s : Int) ≤ l) : sub1 l s = l - s := if_pos h
theorem sub1_neg {l : Int} {s : Nat} (h : ¬ (s : Int) ≤ l) : sub1 l s = -1 := if_neg h
def sumL {α : Type} (s : α → Nat) (a : List α) : Nat := a.length + (a.map s).sum
theorem sumL_len {α : Type} {s : α → Nat} {a : List α} {m : Nat} (h : sumL s a ≤ m) : a.length ≤ m := Nat.le_trans (Nat.le_add_right _ _) h
theorem sum_mem {α : Type} {s : α → Nat} : ∀ {a : List α} {y : α}, y ∈ a → s y ≤ (a.map s).sum
 | [], y, h => by simp at h
 | x :: a, y, h => by
  rcases List.mem_cons.1 h with rfl | h
  ·simp
  ·have := sum_mem (s := s) h
   simp only [List.map_cons, List.sum_cons]; omega
theorem sumL_mem {α : Type} {s : α → Nat} {a : List α} {y : α} (h : y ∈ a) : s y ≤ sumL s a := Nat.le_trans (sum_mem h) (Nat.le_add_left _ _)
/-- A loop that takes from what is left. -/
theorem szL {α : Type} {a : List α} {s : α → Nat} {g : α → Int → Option Int} {f : Nat → Int → Int → Option Int} (hg : ∀ x ∈ a, ∀ l : Int, 0 ≤ l → l ≤ 1048576 → g x l = some (sub1 l (s x)))
  (hend : ∀ k l, f (k + 1) l (a.length : Int) = some l) (hstep : ∀ k l j (h : j < a.length), f (k + 1) l (j : Int) = (g a[j] l).bind fun r => bif decide (r < 0) then some (-1) else f k r ((j + 1 : Nat) : Int))
  {k : Nat} (hk : a.length < k) {l : Int} (h0 : 0 ≤ l) (h1 : l ≤ 1048576) : f k l 0 = some (sub1 l ((a.map s).sum)) := by
 have := loop (fun k (q : Int × Nat) => f k q.1 (q.2 : Int)) (fun q => 0 ≤ q.1 ∧ q.1 ≤ 1048576 ∧ q.2 ≤ a.length ∧ sub1 q.1 (((a.drop q.2).map s).sum) = sub1 l ((a.map s).sum)) (fun q => a.length - q.2) (fun o => o = some (sub1 l ((a.map s).sum))) (fun k q hs => by
  obtain ⟨v, j⟩ := q
  obtain ⟨g0, g1, g2, g3⟩ := hs
  simp only at g0 g1 g2 g3 ⊢
  by_cases hj : j < a.length
  ·rw [hstep k v j hj, hg a[j] (List.getElem_mem hj) v g0 g1, Option.bind_some]
   rw [List.drop_eq_getElem_cons hj, List.map_cons, List.sum_cons] at g3
   by_cases hc : (s a[j] : Int) ≤ v
   ·right
    refine ⟨(v - s a[j], j + 1), ⟨by simp only; omega, by simp only; omega, hj, ?_⟩, by simp only; omega, ?_⟩
    ·rw [← g3]; simp only [sub1]; split <;> split <;> omega
    ·rw [sub1_pos hc, decide_eq_false (by omega), cond_false]
   ·left
    rw [sub1_neg hc, decide_eq_true (by omega), cond_true]
    rw [← g3, sub1_neg (by omega)]
  ·left
   have : j = a.length := by omega
   subst this
   rw [hend]
   rw [List.drop_length] at g3
   rw [← g3]; simp [sub1, g0]) k (l, 0) (by simpa using hk) ⟨h0, h1, by simp, by simp⟩
 exact this
def mkL {α : Type} (c : α → Nat) (mv : α → Int → α) : List α → Int → List α
 | [], _ => []
 | x :: r, k => mv x k :: mkL c mv r (k + (c x : Int))
def costL {α : Type} (c : α → Nat) (a : List α) : Nat := (a.map c).sum
theorem costL_le {α : Type} {c : α → Nat} (h : ∀ x, c x ≤ 8) : ∀ a : List α, costL c a ≤ 8 * a.length
 | [] => by simp [costL]
 | x :: a => by
  have h1 := h x
  have h2 := costL_le h a
  simp only [costL, List.map_cons, List.sum_cons, List.length_cons] at h2 ⊢; omega
theorem costL_les {α : Type} {c s : α → Nat} (h : ∀ x, c x ≤ 8 + 8 * s x) : ∀ a : List α, costL c a ≤ 8 * sumL s a
 | [] => by simp [costL, sumL]
 | x :: a => by
  have h1 := h x
  have h2 := costL_les h a
  simp only [costL, sumL, List.map_cons, List.sum_cons, List.length_cons] at h2 ⊢; omega
theorem mkL_length {α : Type} (c : α → Nat) (mv : α → Int → α) : ∀ (a : List α) (k : Int), (mkL c mv a k).length = a.length
 | [], k => rfl
 | x :: a, k => by simp [mkL, mkL_length c mv a]
theorem inb_set {α : Type} {xs : List α} {j : Nat} {v : α} {i : Int} : inb i (xs.set j v) = inb i xs := by simp [inb]
theorem at_set {α : Type} {d : α} {xs : List α} {j : Nat} {v : α} (h : j < xs.length) : at_ d (xs.set j v) (j : Int) = v := by simp [at_, h]
theorem set_set {α : Type} {xs : List α} {j : Nat} {a b : α} : (xs.set j a).set j b = xs.set j b := by simp
theorem w64_ok {x : Int} (h0 : 0 ≤ x) (h1 : x ≤ 4611686018427387904) : w64 x = x := w64_id (by omega) (by omega)
theorem not_neg {x : Int} (h : 0 ≤ x) : decide (x < 0) = false := decide_eq_false (by omega)
/-- A loop that marks. -/
theorem markL {α : Type} {c : α → Nat} {mv : α → Int → α} {P : α → Prop} {f : Nat → List α → Int → Int → Option (List α × Int)}
  (hend : ∀ k a2 k2 (j : Nat), j = a2.length → f (k + 1) a2 k2 (j : Int) = some (a2, k2))
  (hstep : ∀ k a2 k2 (j : Nat) (h : j < a2.length), P a2[j] → 0 ≤ k2 → k2 + (c a2[j] : Int) ≤ 4611686018427387904 → j < 1048576 → f (k + 1) a2 k2 (j : Int) = f k (a2.set j (mv a2[j] k2)) (k2 + (c a2[j] : Int)) ((j + 1 : Nat) : Int))
  {a : List α} (hP : ∀ y ∈ a, P y) {k0 : Int} (h0 : 0 ≤ k0) (h1 : k0 + (costL c a : Int) ≤ 4611686018427387904) (hl : a.length ≤ 1048576) {k : Nat} (hk : a.length < k) : f k a k0 0 = some (mkL c mv a k0, k0 + (costL c a : Int)) := by
 have := loop (fun k (q : List α × Int × Nat) => f k q.1 q.2.1 (q.2.2 : Int)) (fun q => ∃ done, q.1 = done ++ a.drop q.2.2 ∧ done.length = q.2.2 ∧ q.2.2 ≤ a.length ∧ done ++ mkL c mv (a.drop q.2.2) q.2.1 = mkL c mv a k0 ∧ q.2.1 + (costL c (a.drop q.2.2) : Int) = k0 + (costL c a : Int) ∧ 0 ≤ q.2.1) (fun q => a.length - q.2.2) (fun o => o = some (mkL c mv a k0, k0 + (costL c a : Int))) (fun k q hs => by
  obtain ⟨a2, k2, j⟩ := q
  obtain ⟨done, g1, g2, g3, g4, g5, g6⟩ := hs
  simp only at g1 g2 g3 g4 g5 g6 ⊢
  by_cases hj : j < a.length
  ·right
   rw [List.drop_eq_getElem_cons hj] at g1 g4 g5
   have hj2 : j < a2.length := by rw [g1]; simp; omega
   have ha2 : a2[j] = a[j] := by
    have : a2[j]? = some a[j] := by rw [g1, List.getElem?_append_right (by omega), g2]; simp
    rw [List.getElem?_eq_getElem hj2] at this
    exact Option.some.inj this
   simp only [costL, List.map_cons, List.sum_cons, Int.natCast_add] at g5
   have hcost : 0 ≤ (((a.drop (j + 1)).map c).sum : Int) := by omega
   refine ⟨(a2.set j (mv a2[j] k2), k2 + (c a2[j] : Int), j + 1), ⟨done ++ [mv a[j] k2], ?_, by simp [g2], hj, ?_, ?_, by simp only; omega⟩, by simp only; omega, ?_⟩
   ·simp only
    rw [ha2, g1, List.set_append_right _ _ (by omega), g2, Nat.sub_self, List.set_cons_zero, List.append_assoc]
    rfl
   ·simp only [ha2]
    rw [← g4]; simp [mkL]
   ·rw [ha2]; simp only [costL] at g5 ⊢; omega
   ·exact hstep k a2 k2 j hj2 (by rw [ha2]; exact hP _ (List.getElem_mem hj)) g6 (by rw [ha2]; simp only [costL] at g5 h1 ⊢; omega) (by omega)
  ·left
   have hja : j = a.length := by omega
   subst hja
   rw [List.drop_length] at g1 g4 g5
   rw [hend k a2 k2 a.length (by rw [g1]; simp [g2])]
   simp only [mkL, List.append_nil] at g1 g4
   simp only [costL, List.map_nil, List.sum_nil] at g5
   rw [g1, g4]
   simp only [costL] at g5 ⊢
   congr 2; omega) k (a, k0, 0) (by simpa using hk) ⟨[], by simp, rfl, by simp, by simp, by simp, h0⟩
 exact this
/-- A loop that looks for the marks. -/
theorem heldL {α : Type} {c : α → Nat} {mv : α → Int → α} {P : α → Prop} {f : Nat → List α → Int → Int → Option Int}
  (hend : ∀ k a2 k2 (j : Nat), j = a2.length → f (k + 1) a2 k2 (j : Int) = some k2)
  (hstep : ∀ k a2 k2 (j : Nat) (y : α) (h : j < a2.length), P y → 0 ≤ k2 → k2 + (c y : Int) ≤ 4611686018427387904 → j < 1048576 → a2[j] = mv y k2 → f (k + 1) a2 k2 (j : Int) = f k a2 (k2 + (c y : Int)) ((j + 1 : Nat) : Int))
  {a : List α} (hP : ∀ y ∈ a, P y) {k0 : Int} (h0 : 0 ≤ k0) (h1 : k0 + (costL c a : Int) ≤ 4611686018427387904) (hl : a.length ≤ 1048576) {k : Nat} (hk : a.length < k) : f k (mkL c mv a k0) k0 0 = some (k0 + (costL c a : Int)) := by
 have hlen := mkL_length c mv a k0
 have := loop (fun k (q : Int × Nat) => f k (mkL c mv a k0) q.1 (q.2 : Int)) (fun q => q.2 ≤ a.length ∧ (mkL c mv a k0).drop q.2 = mkL c mv (a.drop q.2) q.1 ∧ q.1 + (costL c (a.drop q.2) : Int) = k0 + (costL c a : Int) ∧ 0 ≤ q.1) (fun q => a.length - q.2) (fun o => o = some (k0 + (costL c a : Int))) (fun k q hs => by
  obtain ⟨k2, j⟩ := q
  obtain ⟨g3, g4, g5, g6⟩ := hs
  simp only at g3 g4 g5 g6 ⊢
  by_cases hj : j < a.length
  ·right
   have hj2 : j < (mkL c mv a k0).length := by omega
   rw [List.drop_eq_getElem_cons hj2, List.drop_eq_getElem_cons hj] at g4
   simp only [mkL, List.cons.injEq] at g4
   rw [List.drop_eq_getElem_cons hj] at g5
   simp only [costL, List.map_cons, List.sum_cons, Int.natCast_add] at g5
   have hcost : 0 ≤ (((a.drop (j + 1)).map c).sum : Int) := by omega
   refine ⟨(k2 + (c a[j] : Int), j + 1), ⟨hj, g4.2, ?_, by simp only; omega⟩, by simp only; omega, ?_⟩
   ·simp only [costL] at g5 ⊢; omega
   ·exact hstep k _ k2 j a[j] hj2 (hP _ (List.getElem_mem hj)) g6 (by simp only [costL] at g5 h1 ⊢; omega) (by omega) g4.1
  ·left
   have hja : j = a.length := by omega
   subst hja
   rw [List.drop_length] at g5
   rw [hend k _ k2 a.length hlen.symm]
   simp only [costL, List.map_nil, List.sum_nil] at g5 ⊢
   congr 1; omega) k (k0, 0) (by simpa using hk) ⟨by simp, by simp, by simp, h0⟩
 exact this

theorem ofB1 (x : Int) : (ofBytes [x]).size = 1 := rfl
theorem markText_go {N : Nat} : ∀ (m : Nat) (k : Int) (out : ByteArray) (f : Nat), 0 ≤ k → k ≤ 9223372036854775807 → k < 10 ^ m → out.size + m ≤ 1000 → m < f → ∃ s, laws_markText_l0 N f k out = some s
 | 0, k, out, f, h0, hbig, h1, h2, h3 => by
  obtain ⟨f, rfl⟩ : ∃ f', f = f' + 1 := ⟨f - 1, by omega⟩
  have hk : ¬ k > 0 := by
   have : k < 1 := by simpa using h1
   omega
  simp only [laws_markText_l0, laws_markText_l0_b, hk, decide_false, cond_false]
  have : catOk (⟨#[109]⟩ : ByteArray) out = true := decide_eq_true (by show 1 + out.size ≤ _; omega)
  rw [this, grd_true]
  exact ⟨_, rfl⟩
 | m + 1, k, out, f, h0, hbig, h1, h2, h3 => by
  obtain ⟨f, rfl⟩ : ∃ f', f = f' + 1 := ⟨f - 1, by omega⟩
  by_cases hk : k > 0
  ·simp only [laws_markText_l0, laws_markText_l0_b, hk, decide_true, cond_true]
   have hc : ∀ x : Int, catOk (ofBytes [x]) out = true := fun x => decide_eq_true (by rw [ofB1]; omega)
   rw [grz_ne (by decide), hc, grd_true, grz_ne (by decide)]
   have hd0 : 0 ≤ k.tdiv 10 := Int.tdiv_nonneg h0 (by decide)
   have hp : (10 : Int) ^ (m + 1) = 10 ^ m * 10 := Int.pow_succ _ _
   have hd1 : k.tdiv 10 < 10 ^ m := by
    rw [Int.tdiv_eq_ediv_of_nonneg h0]
    have := Int.ediv_lt_of_lt_mul (a := k) (b := 10 ^ m) (c := 10) (by decide) (by rw [← hp]; exact h1)
    exact this
   have hle : k.tdiv 10 ≤ k := by rw [Int.tdiv_eq_ediv_of_nonneg h0]; exact Int.ediv_le_self _ h0
   rw [w64_id (by omega) (by omega)]
   exact markText_go m _ _ f hd0 (by omega) hd1 (by rw [ByteArray.size_append, ofB1]; omega) (by omega)
  ·simp only [laws_markText_l0, laws_markText_l0_b, hk, decide_false, cond_false]
   have : catOk (⟨#[109]⟩ : ByteArray) out = true := decide_eq_true (by show 1 + out.size ≤ _; omega)
   rw [this, grd_true]
   exact ⟨_, rfl⟩
def mkTx (N : Nat) (k : Int) : ByteArray := (laws_markText N k).getD ⟨#[]⟩
def MtOk (N : Nat) : Prop := ∀ k : Int, 0 ≤ k → k ≤ 4611686018427387904 → laws_markText N k = some (mkTx N k)
theorem mt_ok {N : Nat} (h : MtOk N) {k : Int} (h0 : 0 ≤ k) (h1 : k ≤ 4611686018427387904) : laws_markText N k = some (mkTx N k) := h k h0 h1
theorem mtOk {N : Nat} (hN : 1048576 < N) : MtOk N := by
 intro k h0 h1
 have : ∃ s, laws_markText N k = some s := by
  unfold laws_markText laws_markText_b
  by_cases hk : k ≤ 0
  ·exact ⟨_, by rw [decide_eq_true hk]; rfl⟩
  ·rw [decide_eq_false hk, cond_false]
   exact markText_go 19 k _ N h0 (by omega) (by omega) (by decide) (by omega)
 obtain ⟨s, hs⟩ := this
 rw [mkTx, hs]; rfl
abbrev T_IntS := List Int
def in_IntS (a : T_IntS) : Prop := a.length ≤ 9223372036854775807 ∧ ∀ y ∈ a, in_int y
def s_IntS (a : T_IntS) : Nat := a.length
def b_IntS (a : T_IntS) : Prop := a.length ≤ 1048576
theorem b_of_IntS {a : T_IntS} (h : s_IntS a ≤ 1048576) : b_IntS a := h
theorem fto_IntS {N : Nat} {a : T_IntS} (h : b_IntS a) (hN : 1048576 < N) : laws_toIntS N a = some a := by
 have hl : a.length ≤ 1048576 := h
 unfold laws_toIntS laws_toIntS_b
 rw [makeOk_lt (by omega), grd_true]
 refine fill (b := a) (fun k out i => laws_toIntS_l0 N k a out i) (fun k out => by simp [laws_toIntS_l0, laws_toIntS_l0_b]) (fun k out j h1 h3 => ?_) (by omega) (by simp)
 have h2 : j < out.length := by omega
 have hj : (j : Int) < (a.length : Int) := by omega
 simp [laws_toIntS_l0, laws_toIntS_l0_b, hj, inb_lt h1, inb_lt h2, at_lt h1, w64_succ (show j < 4611686018427387904 by omega)]
theorem feq_IntS {N : Nat} {a b : T_IntS} (h : b_IntS a) (hN : 1048576 < N) : laws_eqIntS N a b = some (decide (a = b)) := by
 have hla : a.length ≤ 1048576 := h
 unfold laws_eqIntS laws_eqIntS_b
 by_cases hl : a.length = b.length
 ·have h0 : ((a.length : Int) != (b.length : Int)) = false := by simp [hl]
  rw [h0, cond_false, decide_eq_decide.2 (list_eq_iff' hl)]
  refine every (n := a.length) (fun j => decide (a[j]? = b[j]?)) (fun k i => laws_eqIntS_l0 N k a b i) (fun k => by simp [laws_eqIntS_l0, laws_eqIntS_l0_b]) (fun k j hj => ?_) (by omega)
  have h1 : (j : Int) < (a.length : Int) := by omega
  have h2 : j < b.length := by omega
  simp only [laws_eqIntS_l0, laws_eqIntS_l0_b, h1, decide_true, cond_true, inb_lt hj, inb_lt h2, grd_true, at_lt hj, at_lt h2, bneI, ite_dec, w64_succ (show j < 4611686018427387904 by omega), List.getElem?_eq_getElem hj, List.getElem?_eq_getElem h2, Option.some.injEq]
 ·have h0 : ((a.length : Int) != (b.length : Int)) = true := by simp; omega
  rw [h0, cond_true]
  have : a ≠ b := fun h => hl (by rw [h])
  simp [this]
theorem fsz_IntS {N : Nat} {a : T_IntS} {l : Int} (h : in_IntS a) (h0 : 0 ≤ l) (h1 : l ≤ 1048576) (hN : 1048576 < N) : laws_szIntS N a l = some (sub1 l (s_IntS a)) := by
 have := h.1
 unfold laws_szIntS s_IntS sub1
 rw [w64_id (by omega) (by omega)]
 by_cases h : (a.length : Int) ≤ l
 ·rw [if_pos h, decide_eq_false (by omega)]; rfl
 ·rw [if_neg h, decide_eq_true (by omega)]; rfl
def me_IntS (N : Nat) (x : Int) (k : Int) : Int := k
def ce_IntS (x : Int) : Nat := 1
def mk_IntS (N : Nat) (a : T_IntS) (k : Int) : T_IntS := mkL ce_IntS (me_IntS N) a k
def c_IntS (a : T_IntS) : Nat := costL ce_IntS a
theorem c_s_IntS (a : T_IntS) : c_IntS a ≤ 8 * s_IntS a := costL_le (c := ce_IntS) (fun x => by show 1 ≤ 8; omega) a
theorem fmk_IntS {N : Nat} {a : T_IntS} {k : Int} (h : b_IntS a) (h0 : 0 ≤ k) (h1 : k + (c_IntS a : Int) ≤ 4611686018427387904) (hN : 1048576 < N) : laws_markIntS N a k = some (mk_IntS N a k, k + (c_IntS a : Int)) := by
 have hla : a.length ≤ 1048576 := h
 unfold laws_markIntS laws_markIntS_b
 refine markL (P := fun y => True) (f := fun k a2 k2 i => laws_markIntS_l0 N k a2 k2 i) (fun k a2 k2 j hj => by subst hj; simp [laws_markIntS_l0, laws_markIntS_l0_b]) (fun k a2 k2 j h1 hy h0 hc hl => ?_) (fun _ _ => trivial) h0 h1 (by omega) (by omega)
 have h2 : (j : Int) < (a2.length : Int) := by omega
 simp only [ce_IntS, Int.natCast_add, Int.cast_ofNat_Int, Int.natCast_one] at hc
 simp (disch := first | assumption | omega) only [laws_markIntS_l0, laws_markIntS_l0_b, h2, decide_true, cond_true, inb_lt h1, inb_set, grd_true, grz_ne, letv_eq, at_lt h1, at_set, set_set, Int.toNat_natCast, w64_ok, w64_succ, Option.bind_some, Option.bind_some]
 simp only [ce_IntS, me_IntS, Int.natCast_add, Int.cast_ofNat_Int, Int.natCast_one, Int.add_assoc]
theorem fhd_IntS {N : Nat} {a : T_IntS} {k : Int} (h : b_IntS a) (h0 : 0 ≤ k) (h1 : k + (c_IntS a : Int) ≤ 4611686018427387904) (hN : 1048576 < N) : laws_heldIntS N (mk_IntS N a k) k = some (k + (c_IntS a : Int)) := by
 have hla : a.length ≤ 1048576 := h
 unfold laws_heldIntS laws_heldIntS_b
 refine heldL (P := fun y => True) (f := fun k a2 k2 i => laws_heldIntS_l0 N k a2 k2 i) (fun k a2 k2 j hj => by subst hj; simp [laws_heldIntS_l0, laws_heldIntS_l0_b]) (fun k a2 k2 j y h1 hy h0 hc hl he => ?_) (fun _ _ => trivial) h0 h1 (by omega) (by omega)
 have h2 : (j : Int) < (a2.length : Int) := by omega
 simp only [ce_IntS, Int.natCast_add, Int.cast_ofNat_Int, Int.natCast_one] at hc
 simp only [laws_heldIntS_l0, laws_heldIntS_l0_b, h2, decide_true, cond_true, inb_lt h1, grd_true, at_lt h1, he, me_IntS]
 simp (disch := first | assumption | omega) only [bneI, bneB, beqB, decide_true, Bool.not_true, cond_false, w64_ok, w64_succ, Option.bind_some, not_neg, grz_ne, Int.add_assoc, Option.bind_some]
 simp only [ce_IntS, Int.natCast_add, Int.cast_ofNat_Int, Int.natCast_one, Int.add_assoc]
abbrev T_Relation := ByteArray × Int × Int
def in_Relation (x : T_Relation) : Prop := in_str x.1 ∧ in_int x.2.1 ∧ in_int x.2.2
def s_Relation (x : T_Relation) : Nat := s_str x.1
def b_Relation (x : T_Relation) : Prop := b_str x.1
theorem b_of_Relation {x : T_Relation} (h : s_Relation x ≤ 1048576) : b_Relation x := b_of_str (by unfold s_Relation at h; omega)
theorem fto_Relation {N : Nat} {x : T_Relation} (h : b_Relation x) (hN : 1048576 < N) : laws_toRelation N x = some x := by
 simp [laws_toRelation]
theorem feq_Relation {N : Nat} {x y : T_Relation} (h : b_Relation x) (hN : 1048576 < N) : laws_eqRelation N x y = some (decide (x = y)) := by
 simp only [laws_eqRelation, bneI, bneB, beqB, seq_eq, Option.bind_some]
 obtain ⟨x0, x1, x2⟩ := x
 obtain ⟨y0, y1, y2⟩ := y
 simp only [Prod.mk.injEq]
 by_cases e0 : x0 = y0 <;>
 by_cases e1 : x1 = y1 <;>
 by_cases e2 : x2 = y2 <;> simp [e0, e1, e2]
theorem fsz_Relation {N : Nat} {x : T_Relation} {l : Int} (h : in_Relation x) (h0 : 0 ≤ l) (h1 : l ≤ 1048576) (hN : 1048576 < N) : laws_szRelation N x l = some (sub1 l (s_Relation x)) := by
 have : x.1.size ≤ 9223372036854775807 := h.1
 unfold laws_szRelation s_Relation s_str sub1
 rw [w64_id (by omega) (by omega)]
 by_cases h : (x.1.size : Int) ≤ l
 ·rw [if_pos h, decide_eq_false (by omega)]; rfl
 ·rw [if_neg h, decide_eq_true (by omega)]; rfl
abbrev T_RelationS := List T_Relation
def in_RelationS (a : T_RelationS) : Prop := a.length ≤ 9223372036854775807 ∧ ∀ y ∈ a, in_Relation y
def s_RelationS (a : T_RelationS) : Nat := sumL s_Relation a
def b_RelationS (a : T_RelationS) : Prop := a.length ≤ 1048576 ∧ ∀ y ∈ a, b_Relation y
theorem b_of_RelationS {a : T_RelationS} (h : s_RelationS a ≤ 1048576) : b_RelationS a := ⟨(sumL_len h), fun y hy => b_of_Relation (Nat.le_trans (sumL_mem hy) h)⟩
theorem fto_RelationS {N : Nat} {a : T_RelationS} (h : b_RelationS a) (hN : 1048576 < N) : laws_toRelationS N a = some a := by
 have hl : a.length ≤ 1048576 := h.1
 unfold laws_toRelationS laws_toRelationS_b
 rw [makeOk_lt (by omega), grd_true]
 refine fill (b := a) (fun k out i => laws_toRelationS_l0 N k a out i) (fun k out => by simp [laws_toRelationS_l0, laws_toRelationS_l0_b]) (fun k out j h1 h3 => ?_) (by omega) (by simp)
 have h2 : j < out.length := by omega
 have hj : (j : Int) < (a.length : Int) := by omega
 simp [laws_toRelationS_l0, laws_toRelationS_l0_b, hj, inb_lt h1, inb_lt h2, at_lt h1, fto_Relation (h.2 _ (List.getElem_mem h1)) hN, w64_succ (show j < 4611686018427387904 by omega)]
theorem feq_RelationS {N : Nat} {a b : T_RelationS} (h : b_RelationS a) (hN : 1048576 < N) : laws_eqRelationS N a b = some (decide (a = b)) := by
 have hla : a.length ≤ 1048576 := h.1
 unfold laws_eqRelationS laws_eqRelationS_b
 by_cases hl : a.length = b.length
 ·have h0 : ((a.length : Int) != (b.length : Int)) = false := by simp [hl]
  rw [h0, cond_false, decide_eq_decide.2 (list_eq_iff' hl)]
  refine every (n := a.length) (fun j => decide (a[j]? = b[j]?)) (fun k i => laws_eqRelationS_l0 N k a b i) (fun k => by simp [laws_eqRelationS_l0, laws_eqRelationS_l0_b]) (fun k j hj => ?_) (by omega)
  have h1 : (j : Int) < (a.length : Int) := by omega
  have h2 : j < b.length := by omega
  simp only [laws_eqRelationS_l0, laws_eqRelationS_l0_b, h1, decide_true, cond_true, inb_lt hj, inb_lt h2, grd_true, at_lt hj, at_lt h2, feq_Relation (h.2 _ (List.getElem_mem hj)) hN, Option.bind_some, ite_dec, w64_succ (show j < 4611686018427387904 by omega), List.getElem?_eq_getElem hj, List.getElem?_eq_getElem h2, Option.some.injEq]
 ·have h0 : ((a.length : Int) != (b.length : Int)) = true := by simp; omega
  rw [h0, cond_true]
  have : a ≠ b := fun h => hl (by rw [h])
  simp [this]
theorem fsz_RelationS {N : Nat} {a : T_RelationS} {l : Int} (h : in_RelationS a) (h0 : 0 ≤ l) (h1 : l ≤ 1048576) (hN : 1048576 < N) : laws_szRelationS N a l = some (sub1 l (s_RelationS a)) := by
 have hlen := h.1
 unfold laws_szRelationS laws_szRelationS_b
 rw [w64_id (by omega) (by omega)]
 by_cases hc : (a.length : Int) ≤ l
 ·rw [decide_eq_false (by omega), cond_false]
  rw [szL (a := a) (s := s_Relation) (g := fun x l => laws_szRelation N x l) (f := fun k l i => laws_szRelationS_l0 N k a l i) (fun x hx l h0 h1 => fsz_Relation (h.2 x hx) h0 h1 hN) (fun k l => by simp [laws_szRelationS_l0, laws_szRelationS_l0_b]) (fun k l j hj => by
    have h2 : (j : Int) < (a.length : Int) := by omega
    simp only [laws_szRelationS_l0, laws_szRelationS_l0_b, h2, decide_true, cond_true, inb_lt hj, grd_true, at_lt hj, w64_succ (show j < 4611686018427387904 by omega)]) (by omega) (by omega) (by omega)]
  unfold s_RelationS sumL sub1
  congr 1
  split <;> split <;> omega
 ·rw [decide_eq_true (by omega), cond_true]
  unfold s_RelationS sumL sub1
  rw [if_neg (by omega)]
def me_RelationS (N : Nat) (x : T_Relation) (k : Int) : T_Relation := (mkTx N (k), (k + 1), (k + 1 + 1))
def ce_RelationS (x : T_Relation) : Nat := 1 + 1 + 1
def mk_RelationS (N : Nat) (a : T_RelationS) (k : Int) : T_RelationS := mkL ce_RelationS (me_RelationS N) a k
def c_RelationS (a : T_RelationS) : Nat := costL ce_RelationS a
theorem c_s_RelationS (a : T_RelationS) : c_RelationS a ≤ 8 * s_RelationS a := costL_les (c := ce_RelationS) (fun x => by unfold ce_RelationS s_Relation; omega) a
theorem fmk_RelationS {N : Nat} (hm : MtOk N) {a : T_RelationS} {k : Int} (h : b_RelationS a) (h0 : 0 ≤ k) (h1 : k + (c_RelationS a : Int) ≤ 4611686018427387904) (hN : 1048576 < N) : laws_markRelationS N a k = some (mk_RelationS N a k, k + (c_RelationS a : Int)) := by
 have hla : a.length ≤ 1048576 := h.1
 unfold laws_markRelationS laws_markRelationS_b
 refine markL (P := fun y => b_Relation y) (f := fun k a2 k2 i => laws_markRelationS_l0 N k a2 k2 i) (fun k a2 k2 j hj => by subst hj; simp [laws_markRelationS_l0, laws_markRelationS_l0_b]) (fun k a2 k2 j h1 hy h0 hc hl => ?_) h.2 h0 h1 (by omega) (by omega)
 have h2 : (j : Int) < (a2.length : Int) := by omega
 simp only [ce_RelationS, Int.natCast_add, Int.cast_ofNat_Int, Int.natCast_one] at hc
 simp (disch := first | assumption | omega) only [laws_markRelationS_l0, laws_markRelationS_l0_b, h2, decide_true, cond_true, inb_lt h1, inb_set, grd_true, grz_ne, letv_eq, at_lt h1, at_set, set_set, Int.toNat_natCast, w64_ok, w64_succ, Option.bind_some, mt_ok hm, Option.bind_some]
 simp only [ce_RelationS, me_RelationS, Int.natCast_add, Int.cast_ofNat_Int, Int.natCast_one, Int.add_assoc]
abbrev T_Fact := Int × List Int
def in_Fact (x : T_Fact) : Prop := in_int x.1 ∧ in_IntS x.2
def s_Fact (x : T_Fact) : Nat := s_IntS x.2
def b_Fact (x : T_Fact) : Prop := b_IntS x.2
theorem b_of_Fact {x : T_Fact} (h : s_Fact x ≤ 1048576) : b_Fact x := b_of_IntS (by unfold s_Fact at h; omega)
theorem fto_Fact {N : Nat} {x : T_Fact} (h : b_Fact x) (hN : 1048576 < N) : laws_toFact N x = some x := by
 simp [laws_toFact, fto_IntS h hN]
theorem feq_Fact {N : Nat} {x y : T_Fact} (h : b_Fact x) (hN : 1048576 < N) : laws_eqFact N x y = some (decide (x = y)) := by
 simp only [laws_eqFact, bneI, bneB, beqB, seq_eq, feq_IntS h hN, Option.bind_some]
 obtain ⟨x0, x1⟩ := x
 obtain ⟨y0, y1⟩ := y
 simp only [Prod.mk.injEq]
 by_cases e0 : x0 = y0 <;>
 by_cases e1 : x1 = y1 <;> simp [e0, e1]
theorem fsz_Fact {N : Nat} {x : T_Fact} {l : Int} (h : in_Fact x) (h0 : 0 ≤ l) (h1 : l ≤ 1048576) (hN : 1048576 < N) : laws_szFact N x l = some (sub1 l (s_Fact x)) := by
 unfold laws_szFact s_Fact
 rw [fsz_IntS (l := l) h.2 (by omega) (by omega) hN, Option.bind_some]
 unfold sub1
 split
 ·rw [decide_eq_false (by omega)]; rfl
 ·rfl
abbrev T_FactS := List T_Fact
def in_FactS (a : T_FactS) : Prop := a.length ≤ 9223372036854775807 ∧ ∀ y ∈ a, in_Fact y
def s_FactS (a : T_FactS) : Nat := sumL s_Fact a
def b_FactS (a : T_FactS) : Prop := a.length ≤ 1048576 ∧ ∀ y ∈ a, b_Fact y
theorem b_of_FactS {a : T_FactS} (h : s_FactS a ≤ 1048576) : b_FactS a := ⟨(sumL_len h), fun y hy => b_of_Fact (Nat.le_trans (sumL_mem hy) h)⟩
theorem fto_FactS {N : Nat} {a : T_FactS} (h : b_FactS a) (hN : 1048576 < N) : laws_toFactS N a = some a := by
 have hl : a.length ≤ 1048576 := h.1
 unfold laws_toFactS laws_toFactS_b
 rw [makeOk_lt (by omega), grd_true]
 refine fill (b := a) (fun k out i => laws_toFactS_l0 N k a out i) (fun k out => by simp [laws_toFactS_l0, laws_toFactS_l0_b]) (fun k out j h1 h3 => ?_) (by omega) (by simp)
 have h2 : j < out.length := by omega
 have hj : (j : Int) < (a.length : Int) := by omega
 simp [laws_toFactS_l0, laws_toFactS_l0_b, hj, inb_lt h1, inb_lt h2, at_lt h1, fto_Fact (h.2 _ (List.getElem_mem h1)) hN, w64_succ (show j < 4611686018427387904 by omega)]
theorem feq_FactS {N : Nat} {a b : T_FactS} (h : b_FactS a) (hN : 1048576 < N) : laws_eqFactS N a b = some (decide (a = b)) := by
 have hla : a.length ≤ 1048576 := h.1
 unfold laws_eqFactS laws_eqFactS_b
 by_cases hl : a.length = b.length
 ·have h0 : ((a.length : Int) != (b.length : Int)) = false := by simp [hl]
  rw [h0, cond_false, decide_eq_decide.2 (list_eq_iff' hl)]
  refine every (n := a.length) (fun j => decide (a[j]? = b[j]?)) (fun k i => laws_eqFactS_l0 N k a b i) (fun k => by simp [laws_eqFactS_l0, laws_eqFactS_l0_b]) (fun k j hj => ?_) (by omega)
  have h1 : (j : Int) < (a.length : Int) := by omega
  have h2 : j < b.length := by omega
  simp only [laws_eqFactS_l0, laws_eqFactS_l0_b, h1, decide_true, cond_true, inb_lt hj, inb_lt h2, grd_true, at_lt hj, at_lt h2, feq_Fact (h.2 _ (List.getElem_mem hj)) hN, Option.bind_some, ite_dec, w64_succ (show j < 4611686018427387904 by omega), List.getElem?_eq_getElem hj, List.getElem?_eq_getElem h2, Option.some.injEq]
 ·have h0 : ((a.length : Int) != (b.length : Int)) = true := by simp; omega
  rw [h0, cond_true]
  have : a ≠ b := fun h => hl (by rw [h])
  simp [this]
theorem fsz_FactS {N : Nat} {a : T_FactS} {l : Int} (h : in_FactS a) (h0 : 0 ≤ l) (h1 : l ≤ 1048576) (hN : 1048576 < N) : laws_szFactS N a l = some (sub1 l (s_FactS a)) := by
 have hlen := h.1
 unfold laws_szFactS laws_szFactS_b
 rw [w64_id (by omega) (by omega)]
 by_cases hc : (a.length : Int) ≤ l
 ·rw [decide_eq_false (by omega), cond_false]
  rw [szL (a := a) (s := s_Fact) (g := fun x l => laws_szFact N x l) (f := fun k l i => laws_szFactS_l0 N k a l i) (fun x hx l h0 h1 => fsz_Fact (h.2 x hx) h0 h1 hN) (fun k l => by simp [laws_szFactS_l0, laws_szFactS_l0_b]) (fun k l j hj => by
    have h2 : (j : Int) < (a.length : Int) := by omega
    simp only [laws_szFactS_l0, laws_szFactS_l0_b, h2, decide_true, cond_true, inb_lt hj, grd_true, at_lt hj, w64_succ (show j < 4611686018427387904 by omega)]) (by omega) (by omega) (by omega)]
  unfold s_FactS sumL sub1
  congr 1
  split <;> split <;> omega
 ·rw [decide_eq_true (by omega), cond_true]
  unfold s_FactS sumL sub1
  rw [if_neg (by omega)]
def me_FactS (N : Nat) (x : T_Fact) (k : Int) : T_Fact := ((k), mk_IntS N x.2 (k + 1))
def ce_FactS (x : T_Fact) : Nat := 1 + c_IntS x.2
def mk_FactS (N : Nat) (a : T_FactS) (k : Int) : T_FactS := mkL ce_FactS (me_FactS N) a k
def c_FactS (a : T_FactS) : Nat := costL ce_FactS a
theorem c_s_FactS (a : T_FactS) : c_FactS a ≤ 8 * s_FactS a := costL_les (c := ce_FactS) (fun x => by have h0 := c_s_IntS x.2; unfold ce_FactS s_Fact; omega) a
theorem fmk_FactS {N : Nat} {a : T_FactS} {k : Int} (h : b_FactS a) (h0 : 0 ≤ k) (h1 : k + (c_FactS a : Int) ≤ 4611686018427387904) (hN : 1048576 < N) : laws_markFactS N a k = some (mk_FactS N a k, k + (c_FactS a : Int)) := by
 have hla : a.length ≤ 1048576 := h.1
 unfold laws_markFactS laws_markFactS_b
 refine markL (P := fun y => b_Fact y) (f := fun k a2 k2 i => laws_markFactS_l0 N k a2 k2 i) (fun k a2 k2 j hj => by subst hj; simp [laws_markFactS_l0, laws_markFactS_l0_b]) (fun k a2 k2 j h1 hy h0 hc hl => ?_) h.2 h0 h1 (by omega) (by omega)
 have h2 : (j : Int) < (a2.length : Int) := by omega
 have hy0 : b_IntS a2[j].2 := hy
 simp only [ce_FactS, Int.natCast_add, Int.cast_ofNat_Int, Int.natCast_one] at hc
 simp (disch := first | assumption | omega) only [laws_markFactS_l0, laws_markFactS_l0_b, h2, decide_true, cond_true, inb_lt h1, inb_set, grd_true, grz_ne, letv_eq, at_lt h1, at_set, set_set, Int.toNat_natCast, w64_ok, w64_succ, Option.bind_some, fmk_IntS]
 simp only [ce_FactS, me_FactS, Int.natCast_add, Int.cast_ofNat_Int, Int.natCast_one, Int.add_assoc]
abbrev T_Database := (List (ByteArray × Int × Int)) × List (Int × List Int)
def in_Database (x : T_Database) : Prop := in_RelationS x.1 ∧ in_FactS x.2
def s_Database (x : T_Database) : Nat := s_RelationS x.1 + s_FactS x.2
def b_Database (x : T_Database) : Prop := b_RelationS x.1 ∧ b_FactS x.2
theorem b_of_Database {x : T_Database} (h : s_Database x ≤ 1048576) : b_Database x := ⟨b_of_RelationS (by unfold s_Database at h; omega), b_of_FactS (by unfold s_Database at h; omega)⟩
theorem fto_Database {N : Nat} {x : T_Database} (h : b_Database x) (hN : 1048576 < N) : laws_toDatabase N x = some x := by
 simp [laws_toDatabase, fto_RelationS h.1 hN, fto_FactS h.2 hN]
theorem feq_Database {N : Nat} {x y : T_Database} (h : b_Database x) (hN : 1048576 < N) : laws_eqDatabase N x y = some (decide (x = y)) := by
 simp only [laws_eqDatabase, bneI, bneB, beqB, seq_eq, feq_RelationS h.1 hN, feq_FactS h.2 hN, Option.bind_some]
 obtain ⟨x0, x1⟩ := x
 obtain ⟨y0, y1⟩ := y
 simp only [Prod.mk.injEq]
 by_cases e0 : x0 = y0 <;>
 by_cases e1 : x1 = y1 <;> simp [e0, e1]
theorem fsz_Database {N : Nat} {x : T_Database} {l : Int} (h : in_Database x) (h0 : 0 ≤ l) (h1 : l ≤ 1048576) (hN : 1048576 < N) : laws_szDatabase N x l = some (sub1 l (s_Database x)) := by
 unfold laws_szDatabase s_Database
 rw [fsz_RelationS (l := l) h.1 (by omega) (by omega) hN, Option.bind_some]
 by_cases c0 : (s_RelationS x.1 : Int) ≤ l
 case neg => rw [sub1_neg c0]; rw [sub1_neg (by omega)]; rfl
 rw [sub1_pos c0, decide_eq_false (show ¬ l - (s_RelationS x.1 : Int) < 0 by omega), cond_false]
 rw [fsz_FactS (l := (l - (s_RelationS x.1 : Int))) h.2 (by omega) (by omega) hN, Option.bind_some]
 by_cases c1 : (s_FactS x.2 : Int) ≤ (l - (s_RelationS x.1 : Int))
 case neg => rw [sub1_neg c1]; rw [sub1_neg (by omega)]; rfl
 rw [sub1_pos c1, decide_eq_false (show ¬ (l - (s_RelationS x.1 : Int)) - (s_FactS x.2 : Int) < 0 by omega), cond_false]
 rw [sub1_pos (by omega)]; congr 1; omega
def mk_Database (N : Nat) (x : T_Database) (k : Int) : T_Database := (mk_RelationS N x.1 (k), mk_FactS N x.2 (k + (c_RelationS x.1 : Int)))
def c_Database (x : T_Database) : Nat := c_RelationS x.1 + c_FactS x.2
theorem c_s_Database (x : T_Database) : c_Database x ≤ 8 * s_Database x := by have h0 := c_s_RelationS x.1; have h1 := c_s_FactS x.2; unfold c_Database s_Database; omega
theorem fmk_Database {N : Nat} (hm : MtOk N) {x : T_Database} {k : Int} (h : b_Database x) (h0 : 0 ≤ k) (h1 : k + (c_Database x : Int) ≤ 4611686018427387904) (hN : 1048576 < N) : laws_markDatabase N x k = some (mk_Database N x k, k + (c_Database x : Int)) := by
 have hb0 : b_RelationS x.1 := h.1
 have hb1 : b_FactS x.2 := h.2
 simp only [c_Database, Int.natCast_add] at h1
 simp (disch := first | assumption | omega) only [laws_markDatabase, Option.bind_some, fmk_RelationS hm, fmk_FactS]
 simp only [mk_Database, c_Database, Int.natCast_add, Int.add_assoc]
abbrev T_DenialConstraint := Int × Int × Int × Int × Int × Int × Int
noncomputable instance dec_DenialConstraint : DecidableEq T_DenialConstraint := fun _ _ => Classical.propDecidable _
def in_DenialConstraint (x : T_DenialConstraint) : Prop := in_int x.1 ∧ in_int x.2.1 ∧ in_int x.2.2.1 ∧ in_int x.2.2.2.1 ∧ in_int x.2.2.2.2.1 ∧ in_int x.2.2.2.2.2.1 ∧ in_int x.2.2.2.2.2.2
theorem fto_DenialConstraint {N : Nat} (x : T_DenialConstraint) (hN : 1048576 < N) : laws_toDenialConstraint N x = some x := rfl
theorem feq_DenialConstraint {N : Nat} {x y : T_DenialConstraint} (hN : 1048576 < N) : laws_eqDenialConstraint N x y = some (decide (x = y)) := by
 simp only [laws_eqDenialConstraint, bneI, bneB, beqB, seq_eq, Option.bind_some]
 obtain ⟨x0, x1, x2, x3, x4, x5, x6⟩ := x
 obtain ⟨y0, y1, y2, y3, y4, y5, y6⟩ := y
 simp only [Prod.mk.injEq]
 by_cases e0 : x0 = y0 <;>
 by_cases e1 : x1 = y1 <;>
 by_cases e2 : x2 = y2 <;>
 by_cases e3 : x3 = y3 <;>
 by_cases e4 : x4 = y4 <;>
 by_cases e5 : x5 = y5 <;>
 by_cases e6 : x6 = y6 <;> simp [e0, e1, e2, e3, e4, e5, e6]
abbrev T_DenialConstraintS := List T_DenialConstraint
def in_DenialConstraintS (a : T_DenialConstraintS) : Prop := a.length ≤ 9223372036854775807 ∧ ∀ y ∈ a, in_DenialConstraint y
def s_DenialConstraintS (a : T_DenialConstraintS) : Nat := a.length
def b_DenialConstraintS (a : T_DenialConstraintS) : Prop := a.length ≤ 1048576
theorem b_of_DenialConstraintS {a : T_DenialConstraintS} (h : s_DenialConstraintS a ≤ 1048576) : b_DenialConstraintS a := h
theorem fto_DenialConstraintS {N : Nat} {a : T_DenialConstraintS} (h : b_DenialConstraintS a) (hN : 1048576 < N) : laws_toDenialConstraintS N a = some a := by
 have hl : a.length ≤ 1048576 := h
 unfold laws_toDenialConstraintS laws_toDenialConstraintS_b
 rw [makeOk_lt (by omega), grd_true]
 refine fill (b := a) (fun k out i => laws_toDenialConstraintS_l0 N k a out i) (fun k out => by simp [laws_toDenialConstraintS_l0, laws_toDenialConstraintS_l0_b]) (fun k out j h1 h3 => ?_) (by omega) (by simp)
 have h2 : j < out.length := by omega
 have hj : (j : Int) < (a.length : Int) := by omega
 simp [laws_toDenialConstraintS_l0, laws_toDenialConstraintS_l0_b, hj, inb_lt h1, inb_lt h2, at_lt h1, fto_DenialConstraint _ hN, w64_succ (show j < 4611686018427387904 by omega)]
theorem feq_DenialConstraintS {N : Nat} {a b : T_DenialConstraintS} (h : b_DenialConstraintS a) (hN : 1048576 < N) : laws_eqDenialConstraintS N a b = some (decide (a = b)) := by
 have hla : a.length ≤ 1048576 := h
 unfold laws_eqDenialConstraintS laws_eqDenialConstraintS_b
 by_cases hl : a.length = b.length
 ·have h0 : ((a.length : Int) != (b.length : Int)) = false := by simp [hl]
  rw [h0, cond_false, decide_eq_decide.2 (list_eq_iff' hl)]
  refine every (n := a.length) (fun j => decide (a[j]? = b[j]?)) (fun k i => laws_eqDenialConstraintS_l0 N k a b i) (fun k => by simp [laws_eqDenialConstraintS_l0, laws_eqDenialConstraintS_l0_b]) (fun k j hj => ?_) (by omega)
  have h1 : (j : Int) < (a.length : Int) := by omega
  have h2 : j < b.length := by omega
  simp only [laws_eqDenialConstraintS_l0, laws_eqDenialConstraintS_l0_b, h1, decide_true, cond_true, inb_lt hj, inb_lt h2, grd_true, at_lt hj, at_lt h2, feq_DenialConstraint  hN, Option.bind_some, ite_dec, w64_succ (show j < 4611686018427387904 by omega), List.getElem?_eq_getElem hj, List.getElem?_eq_getElem h2, Option.some.injEq]
 ·have h0 : ((a.length : Int) != (b.length : Int)) = true := by simp; omega
  rw [h0, cond_true]
  have : a ≠ b := fun h => hl (by rw [h])
  simp [this]
theorem fsz_DenialConstraintS {N : Nat} {a : T_DenialConstraintS} {l : Int} (h : in_DenialConstraintS a) (h0 : 0 ≤ l) (h1 : l ≤ 1048576) (hN : 1048576 < N) : laws_szDenialConstraintS N a l = some (sub1 l (s_DenialConstraintS a)) := by
 have := h.1
 unfold laws_szDenialConstraintS s_DenialConstraintS sub1
 rw [w64_id (by omega) (by omega)]
 by_cases h : (a.length : Int) ≤ l
 ·rw [if_pos h, decide_eq_false (by omega)]; rfl
 ·rw [if_neg h, decide_eq_true (by omega)]; rfl
def me_DenialConstraintS (N : Nat) (x : T_DenialConstraint) (k : Int) : T_DenialConstraint := ((k), (k + 1), (k + 1 + 1), (k + 1 + 1 + 1), (k + 1 + 1 + 1 + 1), (k + 1 + 1 + 1 + 1 + 1), (k + 1 + 1 + 1 + 1 + 1 + 1))
def ce_DenialConstraintS (x : T_DenialConstraint) : Nat := 1 + 1 + 1 + 1 + 1 + 1 + 1
def mk_DenialConstraintS (N : Nat) (a : T_DenialConstraintS) (k : Int) : T_DenialConstraintS := mkL ce_DenialConstraintS (me_DenialConstraintS N) a k
def c_DenialConstraintS (a : T_DenialConstraintS) : Nat := costL ce_DenialConstraintS a
theorem c_s_DenialConstraintS (a : T_DenialConstraintS) : c_DenialConstraintS a ≤ 8 * s_DenialConstraintS a := costL_le (c := ce_DenialConstraintS) (fun x => by unfold ce_DenialConstraintS; omega) a
theorem fmk_DenialConstraintS {N : Nat} {a : T_DenialConstraintS} {k : Int} (h : b_DenialConstraintS a) (h0 : 0 ≤ k) (h1 : k + (c_DenialConstraintS a : Int) ≤ 4611686018427387904) (hN : 1048576 < N) : laws_markDenialConstraintS N a k = some (mk_DenialConstraintS N a k, k + (c_DenialConstraintS a : Int)) := by
 have hla : a.length ≤ 1048576 := h
 unfold laws_markDenialConstraintS laws_markDenialConstraintS_b
 refine markL (P := fun y => True) (f := fun k a2 k2 i => laws_markDenialConstraintS_l0 N k a2 k2 i) (fun k a2 k2 j hj => by subst hj; simp [laws_markDenialConstraintS_l0, laws_markDenialConstraintS_l0_b]) (fun k a2 k2 j h1 hy h0 hc hl => ?_) (fun _ _ => trivial) h0 h1 (by omega) (by omega)
 have h2 : (j : Int) < (a2.length : Int) := by omega
 simp only [ce_DenialConstraintS, Int.natCast_add, Int.cast_ofNat_Int, Int.natCast_one] at hc
 simp (disch := first | assumption | omega) only [laws_markDenialConstraintS_l0, laws_markDenialConstraintS_l0_b, h2, decide_true, cond_true, inb_lt h1, inb_set, grd_true, grz_ne, letv_eq, at_lt h1, at_set, set_set, Int.toNat_natCast, w64_ok, w64_succ, Option.bind_some, Option.bind_some]
 simp only [ce_DenialConstraintS, me_DenialConstraintS, Int.natCast_add, Int.cast_ofNat_Int, Int.natCast_one, Int.add_assoc]
end Go.PL
namespace Go.PL
set_option linter.unusedVariables false
/-- A loop that appends a piece for each index, and goes on. -/
theorem collectC {β R : Type} {n m B lo : Nat} (piece : Nat → List β) {f : Nat → List β → Int → Option R} {g : List β → Option R} (hp : ∀ j, (piece j).length ≤ m) (hend : ∀ k out, f (k + 1) out (n : Int) = g out)
  (hstep : ∀ k out j, lo ≤ j → j < n → out.length ≤ B → f (k + 1) out (j : Int) = f k (out ++ piece j) ((j + 1 : Nat) : Int)) : ∀ {k j : Nat} {out : List β}, n - j < k → lo ≤ j → j ≤ n → out.length + (n - j) * m ≤ B → f k out (j : Int) = g (out ++ (List.range' j (n - j)).flatMap piece)
 | 0, j, out, hk, hlo, hj, hB => by omega
 | k + 1, j, out, hk, hlo, hj, hB => by
  by_cases h : j < n
  ·have e : n - j = (n - (j + 1)) + 1 := by omega
   rw [e, Nat.add_mul] at hB
   have := hp j
   rw [hstep k out j hlo h (by omega), collectC piece hp hend hstep (by omega) (by omega) (by omega) (by rw [List.length_append]; omega)]
   rw [e, List.range'_succ, List.flatMap_cons, List.append_assoc]
  ·have : j = n := by omega
   subst this
   rw [hend, Nat.sub_self]; simp

abbrev Con := Int × Int × Int × Int × Int × Int × Int
def arOf (d : Db) (r : Int) : Int := (d.1.getD r.toNat (⟨#[]⟩, 0, 0)).2.1
def inR (x a b : Int) : Bool := decide (a ≤ x ∧ x ≤ b)
def conOk (d : Db) (x : Con) : Bool := inR x.1 0 ((d.1.length : Int) - 1) && (inR x.2.1 0 ((d.1.length : Int) - 1) && (inR x.2.2.1 0 (arOf d x.1 - 1) && (inR x.2.2.2.2.1 0 (arOf d x.1 - 1) && (inR x.2.2.2.1 0 (arOf d x.2.1 - 1) && (inR x.2.2.2.2.2.1 0 (arOf d x.2.1 - 1) && inR x.2.2.2.2.2.2 1 2)))))
theorem inR_true {x a b : Int} (h : inR x a b = true) : a ≤ x ∧ x ≤ b := by simpa [inR] using h
theorem specCon {N : Nat} {d : Db} {x : Con} (h : SmallDb d) (hvb : validDb d = true) (hN : 1048576 < N) : spec_IsValidConstraint N d x = some (conOk d x) := by
 have hr := h.rels
 have hv := validDb_of hvb
 unfold spec_IsValidConstraint conOk
 rw [specDb h hN, hvb, Option.bind_some]
 simp only [Bool.not_true, cond_false, l1In, Option.bind_some]
 rw [w64_id (x := (d.1.length : Int) - 1) (by omega) (by omega)]
 rw [show ∀ a b c : Int, decide (a ≤ b ∧ b ≤ c) = inR b a c from fun _ _ _ => rfl, show ∀ a b c : Int, decide (a ≤ b ∧ b ≤ c) = inR b a c from fun _ _ _ => rfl]
 cases h1 : inR x.1 0 ((d.1.length : Int) - 1) with
 | false => rfl
 | true =>
  cases h2 : inR x.2.1 0 ((d.1.length : Int) - 1) with
  | false => rfl
  | true =>
   have i1 := inR_true h1
   have i2 := inR_true h2
   have a1 := validRel_ar (validRels_at hv.rels (j := x.1.toNat) (by omega))
   have a2 := validRel_ar (validRels_at hv.rels (j := x.2.1.toNat) (by omega))
   simp only [Bool.not_true, cond_false, inb_int i1.1 (show x.1 < (d.1.length : Int) by omega), inb_int i2.1 (show x.2.1 < (d.1.length : Int) by omega), grd_true]
   rw [show (at_ (⟨#[]⟩, (0, 0)) d.1 x.1).2.1 = arOf d x.1 from rfl, show (at_ (⟨#[]⟩, (0, 0)) d.1 x.2.1).2.1 = arOf d x.2.1 from rfl]
   have b1 : 1 ≤ arOf d x.1 ∧ arOf d x.1 ≤ 3 := a1
   have b2 : 1 ≤ arOf d x.2.1 ∧ arOf d x.2.1 ≤ 3 := a2
   rw [w64_id (x := arOf d x.1 - 1) (by omega) (by omega), w64_id (x := arOf d x.2.1 - 1) (by omega) (by omega)]
   simp only [inR, Bool.true_and]
   cases decide (0 ≤ x.2.2.1 ∧ x.2.2.1 ≤ arOf d x.1 - 1) <;> cases decide (0 ≤ x.2.2.2.2.1 ∧ x.2.2.2.2.1 ≤ arOf d x.1 - 1) <;> cases decide (0 ≤ x.2.2.2.1 ∧ x.2.2.2.1 ≤ arOf d x.2.1 - 1) <;> cases decide (0 ≤ x.2.2.2.2.2.1 ∧ x.2.2.2.2.2.1 ≤ arOf d x.2.1 - 1) <;> rfl
theorem implCon {N : Nat} {d : Db} {x : Con} (h : SmallDb d) (hvb : validDb d = true) (hN : 1048576 < N) : impl_IsValidConstraint N d x = some (conOk d x) := by
 rw [← specCon h hvb hN]
 unfold impl_IsValidConstraint spec_IsValidConstraint
 rw [specDb h hN, implDb h hN]
 simp only [within, l1In]

/-- Do the facts i and k, in this order, violate x? -/
def viol (d : Db) (x : Con) (i k : Nat) : Bool := conOk d x && (decide ((factAt d i).1 = x.1) && (decide ((factAt d k).1 = x.2.1) && (decide (at_ 0 (factAt d i).2 x.2.2.1 = at_ 0 (factAt d k).2 x.2.2.2.1) &&
 (if x.2.2.2.2.2.2 = 1 then decide (at_ 0 (factAt d i).2 x.2.2.2.2.1 = at_ 0 (factAt d k).2 x.2.2.2.2.2.1) else decide (at_ 0 (factAt d i).2 x.2.2.2.2.1 < at_ 0 (factAt d k).2 x.2.2.2.2.2.1)))))
theorem conCols {d : Db} (hv : ValidDb d) {x : Con} (hc : conOk d x = true) {i k : Nat} (hi : i < d.2.length) (hk : k < d.2.length) (h1 : (factAt d i).1 = x.1) (h2 : (factAt d k).1 = x.2.1) :
  inb x.2.2.1 (factAt d i).2 = true ∧ inb x.2.2.2.2.1 (factAt d i).2 = true ∧ inb x.2.2.2.1 (factAt d k).2 = true ∧ inb x.2.2.2.2.2.1 (factAt d k).2 = true ∧ (x.2.2.2.2.2.2 = 1 ∨ x.2.2.2.2.2.2 = 2) := by
 unfold conOk at hc
 simp only [Bool.and_eq_true] at hc
 obtain ⟨_, _, c3, c4, c5, c6, c7⟩ := hc
 have i3 := inR_true c3
 have i4 := inR_true c4
 have i5 := inR_true c5
 have i6 := inR_true c6
 have i7 := inR_true c7
 have l1 := (goodFact hv.rels (hv.fact i hi)).len
 have l2 := (goodFact hv.rels (hv.fact k hk)).len
 rw [h1] at l1
 rw [h2] at l2
 have l1 : ((factAt d i).2.length : Int) = arOf d x.1 := l1
 have l2 : ((factAt d k).2.length : Int) = arOf d x.2.1 := l2
 exact ⟨inb_int i3.1 (by omega), inb_int i4.1 (by omega), inb_int i5.1 (by omega), inb_int i6.1 (by omega), by omega⟩
theorem specViol {N : Nat} {d : Db} {x : Con} (h : SmallDb d) (hvb : validDb d = true) (hN : 1048576 < N) {i k : Nat} (hi : i < d.2.length) (hk : k < d.2.length) (hne : i ≠ k) : spec_ViolatesConstraint N d x i k = some (viol d x i k) := by
 have hf := h.facts
 have hv := validDb_of hvb
 unfold spec_ViolatesConstraint viol
 rw [specCon h hvb hN, Option.bind_some]
 cases hc : conOk d x with
 | false => rfl
 | true =>
  have e1 : (0 : Int) ≤ (i : Int) ∧ (i : Int) ≤ (d.2.length : Int) - 1 := by omega
  have e2 : (0 : Int) ≤ (k : Int) ∧ (k : Int) ≤ (d.2.length : Int) - 1 := by omega
  have e3 : ((i : Int) == (k : Int)) = false := by rw [beqI]; exact decide_eq_false (by omega)
  simp only [Bool.not_true, cond_false, l1In, Option.bind_some, Bool.true_and]
  rw [w64_id (x := (d.2.length : Int) - 1) (by omega) (by omega), decide_eq_true e1, decide_eq_true e2, e3]
  simp only [Bool.not_true, cond_false, inb_lt hi, inb_lt hk, grd_true, fact_at hi, fact_at hk, bneI]
  by_cases h1 : (factAt d i).1 = x.1
  ·by_cases h2 : (factAt d k).1 = x.2.1
   ·obtain ⟨k1, k2, k3, k4, k5⟩ := conCols hv hc hi hk h1 h2
    simp only [h1, h2, decide_true, Bool.not_true, cond_false, k1, k2, k3, k4, grd_true, Bool.true_and]
    by_cases h3 : at_ 0 (factAt d i).2 x.2.2.1 = at_ 0 (factAt d k).2 x.2.2.2.1
    ·simp only [h3, decide_true, Bool.not_true, cond_false, Bool.true_and]
     by_cases h4 : x.2.2.2.2.2.2 = 1
     ·simp only [h4, if_true, beqI, decide_true, cond_true]
     ·simp only [h4, if_false, beqI, decide_false, cond_false]
    ·simp only [h3, decide_false, Bool.not_false, cond_true, Bool.false_and]
   ·simp only [h1, h2, decide_true, decide_false, Bool.not_true, Bool.not_false, cond_false, cond_true, Bool.false_and, Bool.true_and]
  ·simp only [h1, decide_false, Bool.not_false, cond_true, Bool.false_and]
theorem implViol {N : Nat} {d : Db} {x : Con} (h : SmallDb d) (hvb : validDb d = true) (hN : 1048576 < N) {i k : Nat} (hi : i < d.2.length) (hk : k < d.2.length) (hne : i ≠ k) : impl_ViolatesConstraint N d x i k = some (viol d x i k) := by
 have hf := h.facts
 have hv := validDb_of hvb
 unfold impl_ViolatesConstraint viol
 rw [implCon h hvb hN, Option.bind_some]
 cases hc : conOk d x with
 | false => rfl
 | true =>
  have e1 : (0 : Int) ≤ (i : Int) ∧ (i : Int) ≤ (d.2.length : Int) - 1 := by omega
  have e2 : (0 : Int) ≤ (k : Int) ∧ (k : Int) ≤ (d.2.length : Int) - 1 := by omega
  have e3 : ((i : Int) != (k : Int)) = true := by rw [bneI, decide_eq_false (by omega)]; rfl
  simp only [cond_true, within, Option.bind_some, Bool.true_and, e3]
  rw [w64_id (x := (d.2.length : Int) - 1) (by omega) (by omega), decide_eq_true e1, decide_eq_true e2]
  simp only [cond_true, inb_lt hi, inb_lt hk, grd_true, fact_at hi, fact_at hk]
  have bb : ∀ o : Option Bool, (o.bind fun r4 => some r4) = o := fun o => by cases o <;> rfl
  rw [bb]
  unfold impl_violates
  simp only [bneI]
  by_cases h1 : (factAt d i).1 = x.1
  ·by_cases h2 : (factAt d k).1 = x.2.1
   ·obtain ⟨k1, k2, k3, k4, k5⟩ := conCols hv hc hi hk h1 h2
    simp only [h1, h2, decide_true, Bool.not_true, cond_false, k1, k2, k3, k4, grd_true, Bool.true_and]
    by_cases h3 : at_ 0 (factAt d i).2 x.2.2.1 = at_ 0 (factAt d k).2 x.2.2.2.1
    ·simp only [h3, decide_true, Bool.not_true, cond_false, Bool.true_and]
     rcases k5 with k5 | k5
     ·simp only [k5, if_true, beqI, decide_true, cond_true]
      by_cases h5 : at_ 0 (factAt d i).2 x.2.2.2.2.1 = at_ 0 (factAt d k).2 x.2.2.2.2.2.1
      ·simp [h5]
      ·simp [h5]
     ·simp [k5, beqI]
    ·simp only [h3, decide_false, Bool.not_false, cond_true, Bool.false_and]
   ·simp only [h1, h2, decide_true, decide_false, Bool.not_true, Bool.not_false, cond_false, cond_true, Bool.false_and, Bool.true_and]
  ·simp only [h1, decide_false, Bool.not_false, cond_true, Bool.false_and]
end Go.PL
namespace Go.PL
set_option linter.unusedVariables false
/-- A loop that appends a piece for each element. -/
theorem collect {α β : Type} {a : List α} (piece : α → List β) {f : Nat → List β → Int → Option (List β)} (hp : ∀ x ∈ a, (piece x).length ≤ 1) (hend : ∀ k out, f (k + 1) out (a.length : Int) = some out)
  (hstep : ∀ k out j (h : j < a.length), out.length ≤ j → f (k + 1) out (j : Int) = f k (out ++ piece a[j]) ((j + 1 : Nat) : Int)) {k : Nat} (hk : a.length < k) : f k [] 0 = some (a.flatMap piece) := by
 have := loop (fun k (q : List β × Nat) => f k q.1 (q.2 : Int)) (fun q => q.2 ≤ a.length ∧ q.1.length ≤ q.2 ∧ q.1 ++ (a.drop q.2).flatMap piece = a.flatMap piece) (fun q => a.length - q.2) (fun o => o = some (a.flatMap piece)) (fun k q hs => by
  obtain ⟨out, j⟩ := q
  obtain ⟨h1, h2, h3⟩ := hs
  simp only at h1 h2 h3 ⊢
  by_cases hj : j < a.length
  ·right
   refine ⟨(out ++ piece a[j], j + 1), ⟨hj, ?_, ?_⟩, by simp only; omega, hstep k out j hj h2⟩
   ·have := hp a[j] (List.getElem_mem hj)
    simp only [List.length_append]; omega
   ·rw [← h3, List.drop_eq_getElem_cons hj, List.flatMap_cons, List.append_assoc]
  ·left
   have : j = a.length := by omega
   subst this
   rw [hend, ← h3, List.drop_length]; simp) k ([], 0) (by simpa using hk) ⟨by simp, by simp, by simp⟩
 exact this
theorem appOk_of {α : Type} {s x : List α} {b : Nat} (h : (s.length + x.length) * b ≤ 140737488355328) : appOk s x b = true := decide_eq_true h
theorem flatMap_len {α β : Type} {piece : α → List β} {n : Nat} : ∀ {a : List α}, (∀ x ∈ a, (piece x).length ≤ n) → (a.flatMap piece).length ≤ a.length * n
 | [], _ => by simp
 | x :: a, h => by
  have h1 := h x (by simp)
  have h2 := flatMap_len (a := a) fun y hy => h y (by simp [hy])
  rw [List.flatMap_cons, List.length_append, List.length_cons, Nat.add_mul]; omega

theorem c_IntS_eq (a : List Int) : c_IntS a = a.length := by
 unfold c_IntS costL
 have : ce_IntS = fun _ => 1 := rfl
 rw [this]
 induction a with
 | nil => rfl
 | cons x a ih => simp only [List.map_cons, List.sum_cons, List.length_cons, ih]; omega
end Go.PL
namespace Go.PL
set_option linter.unusedVariables false
theorem smallOf {d : Db} (h : b_Database d) : SmallDb d := ⟨h.1.1, h.2.1, fun f hf => h.2.2 f hf⟩

def vany (d : Db) (l : List Con) (i k : Nat) : Bool := l.any fun x => viol d x i k || viol d x k i
def edge (d : Db) (l : List Con) (i k : Nat) : Bool := sameD d i k || vany d l i k
def edgeP (d : Db) (l : List Con) (i k : Nat) : List (Int × Int) := if edge d l i k then [((i : Int), (k : Int))] else []
def edgeR (d : Db) (l : List Con) (i : Nat) : List (Int × Int) := (List.range' (i + 1) (d.2.length - (i + 1))).flatMap (edgeP d l i)
def edgesOf (d : Db) (l : List Con) : List (Int × Int) := (List.range d.2.length).flatMap (edgeR d l)
theorem edgeP_len (d : Db) (l : List Con) (i k : Nat) : (edgeP d l i k).length ≤ 1 := by unfold edgeP; split <;> simp
theorem range'_flatMap_len {β : Type} {piece : Nat → List β} {m : Nat} (h : ∀ k, (piece k).length ≤ m) (s n : Nat) : ((List.range' s n).flatMap piece).length ≤ n * m := by
 have := flatMap_len (piece := piece) (n := m) (a := List.range' s n) (fun x _ => h x)
 simpa using this
theorem edgeR_len {d : Db} (hv : ValidDb d) (l : List Con) (i : Nat) : (edgeR d l i).length ≤ 14 := by
 have := range'_flatMap_len (edgeP_len d l i) (i + 1) (d.2.length - (i + 1))
 have := hv.few
 unfold edgeR; omega
theorem edges_len {d : Db} (hv : ValidDb d) (l : List Con) : (edgesOf d l).length ≤ 196 := by
 have := flatMap_len (piece := edgeR d l) (n := 14) (a := List.range d.2.length) (fun x _ => edgeR_len hv l x)
 have := hv.few
 simp only [List.length_range] at *
 unfold edgesOf
 omega
/-- Any of a list's, by a loop's index. -/
theorem any_drop {α : Type} {l : List α} {p : α → Bool} {j : Nat} (h : j < l.length) : (l.drop j).any p = (p l[j] || (l.drop (j + 1)).any p) := by rw [List.drop_eq_getElem_cons h, List.any_cons]

theorem factAt_mem {d : Db} {k : Nat} (hk : k < d.2.length) : factAt d k ∈ d.2 := by unfold factAt; rw [getD_lt hk]; exact List.getElem_mem hk
theorem specEdge2 {N : Nat} {d : Db} {l : List Con} (h : SmallDb d) (hl : l.length ≤ 1048576) (hvb : validDb d = true) (hN : 1048576 < N) {i k : Nat} (hik : i < k) (hk : k < d.2.length) (Rc : List Con → List Rel → List Fact → List (Int × Int) → Int → Int → Option (List (Int × Int))) {out : List (Int × Int)} (ho : out.length ≤ 1000) :
  ∀ {f j : Nat} {is_ : Bool}, l.length - j < f → j ≤ l.length → spec_ConflictEdges_l2 Rc N f l d.1 d.2 out i k is_ (j : Int) = Rc l d.1 d.2 (out ++ (if is_ || (l.drop j).any (fun x => viol d x i k || viol d x k i) then [((i : Int), (k : Int))] else [])) i ((k + 1 : Nat) : Int)
 | 0, j, is_, hf, hj => by omega
 | f + 1, j, is_, hf, hj => by
  have few := (validDb_of hvb).few
  by_cases hlt : j < l.length
  ·have h1 : (j : Int) < (l.length : Int) := by omega
   simp only [spec_ConflictEdges_l2, spec_ConflictEdges_l2_b, h1, decide_true, cond_true, w64_succ (show j < 4611686018427387904 by omega), inb_lt hlt, grd_true, at_lt hlt]
   rw [any_drop hlt]
   cases is_ with
   | true =>
    rw [cond_true, specEdge2 h hl hvb hN hik hk Rc ho (by omega) (by omega)]
    simp
   | false =>
    have v1 := specViol (x := l[j]) h hvb hN (i := i) (k := k) (by omega) hk (by omega)
    have v2 := specViol (x := l[j]) h hvb hN (i := k) (k := i) hk (by omega) (by omega)
    rw [cond_false]
    erw [v1]
    rw [Option.bind_some]
    cases hv1 : viol d l[j] i k with
    | true =>
     rw [cond_true, specEdge2 h hl hvb hN hik hk Rc ho (by omega) (by omega)]
     simp
    | false =>
     rw [cond_false]
     erw [v2]
     rw [Option.bind_some, specEdge2 h hl hvb hN hik hk Rc ho (by omega) (by omega)]
     simp only [Bool.false_or]
  ·have : j = l.length := by omega
   subst this
   have h1 : ¬ (l.length : Int) < (l.length : Int) := by omega
   simp only [spec_ConflictEdges_l2, spec_ConflictEdges_l2_b, h1, decide_false, cond_false, w64_succ (show k < 4611686018427387904 by omega), List.drop_length, List.any_nil, Bool.or_false]
   cases is_ with
   | true =>
    have : appOk out [((i : Int), (k : Int))] 16 = true := appOk_of (by simp only [List.length_singleton]; omega)
    rw [cond_true, this, grd_true, if_pos rfl]
   | false => simp
theorem specEdge1 {N : Nat} {d : Db} {l : List Con} (h : SmallDb d) (hl : l.length ≤ 1048576) (hvb : validDb d = true) (hN : 1048576 < N) {i : Nat} (hi : i < d.2.length) (R0 : List Con → List Rel → List Fact → List (Int × Int) → Int → Option (List (Int × Int))) {out : List (Int × Int)} (ho : out.length ≤ 500) :
  spec_ConflictEdges_l1 R0 N N l d.1 d.2 out i ((i + 1 : Nat) : Int) = R0 l d.1 d.2 (out ++ edgeR d l i) ((i + 1 : Nat) : Int) := by
 have few := (validDb_of hvb).few
 have hv := validDb_of hvb
 refine collectC (n := d.2.length) (m := 1) (B := 1000) (edgeP d l i) (f := fun k out j => spec_ConflictEdges_l1 R0 N k l d.1 d.2 out i j) (g := fun out => R0 l d.1 d.2 out ((i + 1 : Nat) : Int)) (edgeP_len d l i) (fun k out => by
  have h1 : ¬ (d.2.length : Int) < (d.2.length : Int) := by omega
  simp only [spec_ConflictEdges_l1, spec_ConflictEdges_l1_b, h1, decide_false, cond_false, w64_succ (show i < 4611686018427387904 by omega)]) (lo := i + 1) (fun f out k hik hk hB => ?_) (by omega) (by omega) (by omega) (by omega)
 have hik : i < k := hik
 have h1 : (k : Int) < (d.2.length : Int) := by omega
 simp only [spec_ConflictEdges_l1, spec_ConflictEdges_l1_b, h1, decide_true, cond_true, inb_lt hi, inb_lt hk, grd_true, fact_at hi, fact_at hk]
 rw [specSame h.rels (h.vals _ (factAt_mem hi)) (h.vals _ (factAt_mem hk)) hN hv.rels (hv.fact i hi) (hv.fact k hk), Option.bind_some]
 have := specEdge2 h hl hvb hN hik hk (spec_ConflictEdges_l1 R0 N f) hB (f := N) (j := 0) (is_ := sameK d.1 (factAt d i) (factAt d k)) (by omega) (by omega)
 rw [show ((0 : Nat) : Int) = 0 from rfl] at this
 rw [this, List.drop_zero]
 rfl
theorem specEdges {N : Nat} {d : Db} {l : List Con} (h : SmallDb d) (hl : l.length ≤ 1048576) (hN : 1048576 < N) : spec_ConflictEdges N d l = some (if validDb d then edgesOf d l else []) := by
 have hf := h.facts
 unfold spec_ConflictEdges spec_ConflictEdges_b
 cases hvb : validDb d with
 | false =>
  obtain ⟨n, rfl⟩ : ∃ n, N = n + 1 := ⟨N - 1, by omega⟩
  simp only [spec_ConflictEdges_l0, spec_ConflictEdges_l0_b]
  have := specDb h hN
  rw [hvb] at this
  have this : spec_IsValidDatabase (n + 1) (d.1, d.2) = some false := this
  rw [this]
  by_cases h0 : (0 : Int) < (d.2.length : Int)
  ·rw [decide_eq_true h0]; rfl
  ·rw [decide_eq_false h0]; rfl
 | true =>
  have hv := validDb_of hvb
  have few := hv.few
  rw [if_pos rfl]
  have := collectC (n := d.2.length) (m := 14) (B := 400) (lo := 0) (edgeR d l) (f := fun k out j => spec_ConflictEdges_l0 N k l d.1 d.2 out j) (g := fun out => some out) (edgeR_len hv l) (fun k out => by
   have h1 : ¬ (d.2.length : Int) < (d.2.length : Int) := by omega
   simp only [spec_ConflictEdges_l0, spec_ConflictEdges_l0_b, h1, decide_false, cond_false]) (fun f out i _ hi hB => by
   have h1 : (i : Int) < (d.2.length : Int) := by omega
   have hd := specDb h hN
   rw [hvb] at hd
   have hd : spec_IsValidDatabase N (d.1, d.2) = some true := hd
   simp only [spec_ConflictEdges_l0, spec_ConflictEdges_l0_b, h1, decide_true, cond_true, hd, Option.bind_some, w64_succ (show i < 4611686018427387904 by omega)]
   rw [specEdge1 h hl hvb hN hi _ (by omega)]) (k := N) (j := 0) (out := []) (by omega) (by omega) (by omega) (by simp only [List.length_nil]; omega)
  rw [show ((0 : Nat) : Int) = 0 from rfl] at this
  rw [this, List.nil_append, Nat.sub_zero, ← List.range_eq_range']
  rfl

/-- The closure that says whether two facts are in conflict. -/
theorem implEdgeC {N : Nat} {d : Db} {l : List Con} (h : SmallDb d) (hl : l.length ≤ 1048576) (hvb : validDb d = true) (hN : 1048576 < N) {i k : Nat} (hik : i < k) (hk : k < d.2.length) : impl_ConflictEdges_c1 N i k l d = some (edge d l i k) := by
 have hv := validDb_of hvb
 have go : ∀ {f j : Nat}, l.length - j < f → j ≤ l.length → impl_ConflictEdges_c1_l0 N f i k d.1 d.2 l (l.length : Int) (j : Int) = some ((l.drop j).any (fun x => viol d x i k || viol d x k i) || sameD d i k) := by
  intro f
  induction f with
  | zero => intro j hf hj; omega
  | succ f ih =>
   intro j hf hj
   by_cases hlt : j < l.length
   ·have h1 : (j : Int) < (l.length : Int) := by omega
    have v1 := specViol (x := l[j]) h hvb hN (i := i) (k := k) (by omega) hk (by omega)
    have v1 := implViol (x := l[j]) h hvb hN (i := i) (k := k) (by omega) hk (by omega)
    have v2 := implViol (x := l[j]) h hvb hN (i := k) (k := i) hk (by omega) (by omega)
    simp only [impl_ConflictEdges_c1_l0, impl_ConflictEdges_c1_l0_b, h1, decide_true, cond_true, w64_succ (show j < 4611686018427387904 by omega), inb_lt hlt, grd_true, at_lt hlt]
    rw [any_drop hlt]
    erw [v1]
    rw [Option.bind_some]
    cases hv1 : viol d l[j] i k with
    | true => simp
    | false =>
     rw [cond_false]
     erw [v2]
     rw [Option.bind_some]
     cases hv2 : viol d l[j] k i with
     | true => simp
     | false =>
      rw [cond_false, ih (by omega) (by omega)]
      simp only [Bool.false_or]
   ·have : j = l.length := by omega
    subst this
    have h1 : ¬ (l.length : Int) < (l.length : Int) := by omega
    have hi : i < d.2.length := by omega
    simp only [impl_ConflictEdges_c1_l0, impl_ConflictEdges_c1_l0_b, h1, decide_false, cond_false, List.drop_length, List.any_nil, Bool.false_or, inb_lt hi, inb_lt hk, grd_true, fact_at hi, fact_at hk]
    rw [implSame (h.vals _ (factAt_mem hi)) (h.vals _ (factAt_mem hk)) hN hv.rels (hv.fact i hi) (hv.fact k hk)]
    rfl
 unfold impl_ConflictEdges_c1 impl_ConflictEdges_c1_b
 have := go (f := N) (j := 0) (by omega) (by omega)
 rw [show ((0 : Nat) : Int) = 0 from rfl] at this
 rw [this, List.drop_zero, Bool.or_comm]
 rfl
theorem implEdge1 {N : Nat} {d : Db} {l : List Con} (h : SmallDb d) (hl : l.length ≤ 1048576) (hvb : validDb d = true) (hN : 1048576 < N) {i : Nat} (hi : i < d.2.length) (R0 : Int → List Con → Db → List (Int × Int) → Int → Int → Option (List (Int × Int))) {out : List (Int × Int)} (ho : out.length ≤ 500) :
  impl_pairs_ConflictEdges_c1_l1 R0 N N (d.2.length : Int) l d out i ((i + 1 : Nat) : Int) (d.2.length : Int) i = R0 (d.2.length : Int) l d (out ++ edgeR d l i) (d.2.length : Int) ((i + 1 : Nat) : Int) := by
 have few := (validDb_of hvb).few
 refine collectC (n := d.2.length) (m := 1) (B := 1000) (edgeP d l i) (f := fun k out j => impl_pairs_ConflictEdges_c1_l1 R0 N k (d.2.length : Int) l d out i j (d.2.length : Int) i) (g := fun out => R0 (d.2.length : Int) l d out (d.2.length : Int) ((i + 1 : Nat) : Int)) (edgeP_len d l i) (fun k out => by
  have h1 : ¬ (d.2.length : Int) < (d.2.length : Int) := by omega
  simp only [impl_pairs_ConflictEdges_c1_l1, impl_pairs_ConflictEdges_c1_l1_b, h1, decide_false, cond_false, w64_succ (show i < 4611686018427387904 by omega)]) (lo := i + 1) (fun f out k hik hk hB => ?_) (by omega) (by omega) (by omega) (by omega)
 have hik : i < k := hik
 have h1 : (k : Int) < (d.2.length : Int) := by omega
 simp only [impl_pairs_ConflictEdges_c1_l1, impl_pairs_ConflictEdges_c1_l1_b, h1, decide_true, cond_true, implEdgeC h hl hvb hN hik hk, Option.bind_some, w64_succ (show k < 4611686018427387904 by omega)]
 unfold edgeP
 cases edge d l i k with
 | true =>
  have : appOk out [((i : Int), (k : Int))] 16 = true := appOk_of (by simp only [List.length_singleton]; omega)
  rw [cond_true, this, grd_true, if_pos rfl]
 | false => simp
theorem implEdges {N : Nat} {d : Db} {l : List Con} (h : SmallDb d) (hl : l.length ≤ 1048576) (hN : 1048576 < N) : impl_ConflictEdges N d l = some (if validDb d then edgesOf d l else []) := by
 have hf := h.facts
 unfold impl_ConflictEdges
 rw [implDb h hN, Option.bind_some]
 cases hvb : validDb d with
 | false => rfl
 | true =>
  have hv := validDb_of hvb
  have few := hv.few
  rw [if_pos rfl, Bool.not_true, cond_false]
  unfold impl_pairs_ConflictEdges_c1 impl_pairs_ConflictEdges_c1_b
  have := collectC (n := d.2.length) (m := 14) (B := 400) (lo := 0) (edgeR d l) (f := fun k out j => impl_pairs_ConflictEdges_c1_l0 N k (d.2.length : Int) l d out (d.2.length : Int) j) (g := fun out => some out) (edgeR_len hv l) (fun k out => by
   have h1 : ¬ (d.2.length : Int) < (d.2.length : Int) := by omega
   simp only [impl_pairs_ConflictEdges_c1_l0, impl_pairs_ConflictEdges_c1_l0_b, h1, decide_false, cond_false]) (fun f out i _ hi hB => by
   have h1 : (i : Int) < (d.2.length : Int) := by omega
   simp only [impl_pairs_ConflictEdges_c1_l0, impl_pairs_ConflictEdges_c1_l0_b, h1, decide_true, cond_true, w64_succ (show i < 4611686018427387904 by omega)]
   rw [implEdge1 h hl hvb hN hi _ (by omega)]) (k := N) (j := 0) (out := []) (by omega) (by omega) (by omega) (by simp only [List.length_nil]; omega)
  rw [show ((0 : Nat) : Int) = 0 from rfl] at this
  rw [this, Option.bind_some, List.nil_append, Nat.sub_zero, ← List.range_eq_range']
  rfl
end Go.PL
namespace Go.PL
set_option linter.unusedVariables false
theorem any_contains (s : List Int) (v : Int) : (s.any fun x => decide (v = x)) = decide (v ∈ s) := by
 induction s with
 | nil => rfl
 | cons x s ih => simp only [List.any_cons, ih, List.mem_cons, Bool.decide_or]
theorem implHas {N : Nat} {s : List Int} {v : Int} (hs : s.length ≤ 1048576) (hN : 1048576 < N) : slices_Contains_Lint_int N s v = some (decide (v ∈ s)) := by
 unfold slices_Contains_Lint_int slices_Index_Lint_int slices_Index_Lint_int_b
 rw [contains_of (d := (0 : Int)) (xs := s) (p := fun x => decide (v = x)) (first (n := s.length) (fun j => decide (v = s.getD j 0)) (fun k i => slices_Index_Lint_int_l0 N k s v (s.length : Int) i) (fun k => by simp [slices_Index_Lint_int_l0, slices_Index_Lint_int_l0_b]) (fun k j hj => ?_) (by omega)), any_contains]
 have h1 : (j : Int) < (s.length : Int) := by omega
 simp only [slices_Index_Lint_int_l0, slices_Index_Lint_int_l0_b, h1, decide_true, cond_true, inb_lt hj, grd_true, at_lt hj, getD_lt hj, w64_succ (show j < 4611686018427387904 by omega), beqI]
 cases decide (v = s[j]) <;> rfl
theorem specHas {N : Nat} {s : List Int} {v : Int} (hs : s.length ≤ 1048576) (hN : 1048576 < N) : spec_l7Has N s v = some (decide (v ∈ s)) := by
 unfold spec_l7Has spec_l7Has_b
 rw [everyE (n := s.length) (fun j => !decide (s.getD j 0 = v)) (some true) (some false) (fun k i => spec_l7Has_l0 N k s v i) (fun k => by simp [spec_l7Has_l0, spec_l7Has_l0_b]) (fun k j hj => ?_) (by omega)]
 ·by_cases h : v ∈ s
  ·rw [decide_eq_true h]
   obtain ⟨j, hj, rfl⟩ := List.mem_iff_getElem.1 h
   rw [if_neg (fun h' => by have := h' j hj; rw [getD_lt hj] at this; simp at this)]
  ·rw [decide_eq_false h, if_pos (fun j hj => by
    rw [getD_lt hj]
    have : ¬ s[j] = v := fun e => h (e ▸ List.getElem_mem hj)
    simp [this])]
 ·have h1 : (j : Int) < (s.length : Int) := by omega
  simp only [spec_l7Has_l0, spec_l7Has_l0_b, h1, decide_true, cond_true, inb_lt hj, grd_true, at_lt hj, getD_lt hj, w64_succ (show j < 4611686018427387904 by omega), beqI]
  cases decide (s[j] = v) <;> simp

/-- Literals of numbers up to n, one for each at most. -/
structure Good (n : Int) (c : List Int) : Prop where
 lit : ∀ x ∈ c, x ≠ 0 ∧ -n ≤ x ∧ x ≤ n
 one : c.Pairwise fun x y => x ≠ y ∧ x ≠ -y
theorem nodup_le : ∀ (n : Nat) (l : List Nat), l.Nodup → (∀ x ∈ l, 1 ≤ x ∧ x ≤ n) → l.length ≤ n
 | 0, l, _, h => by
  cases l with
  | nil => simp
  | cons x l => have := h x (by simp); omega
 | n + 1, l, hn, h => by
  have := nodup_le n (l.erase (n + 1)) (hn.erase _) (fun x hx => by
   have h1 := (hn.mem_erase_iff).1 hx
   have := h x h1.2
   have := h1.1
   omega)
  rw [List.length_erase] at this
  split at this <;> omega
theorem Good.few {n : Int} {c : List Int} (h0 : 0 ≤ n) (h : Good n c) : (c.length : Int) ≤ n := by
 have := nodup_le n.toNat (c.map Int.natAbs) (by
  unfold List.Nodup
  rw [List.pairwise_map]
  exact h.one.imp (fun {x y} hxy e => by omega)) (fun x hx => by
  obtain ⟨y, hy, rfl⟩ := List.mem_map.1 hx
  have := h.lit y hy
  omega)
 rw [List.length_map] at this
 omega
end Go.PL
namespace Go.PL
set_option linter.unusedVariables false
end Go.PL
namespace Go.PL
set_option linter.unusedVariables false
def validSet (n : Nat) (l : List Int) : Bool := decide (∀ j, j < l.length → (decide (0 ≤ l.getD j 0 ∧ l.getD j 0 ≤ (n : Int) - 1) && (decide (j = 0) || decide (l.getD (j - 1) 0 < l.getD j 0))) = true)
theorem specSet {N : Nat} {d : Db} {l : List Int} (h : SmallDb d) (hl : l.length ≤ 1048576) (hN : 1048576 < N) : spec_l4Set N d l = some (validSet d.2.length l) := by
 have hf := h.facts
 unfold spec_l4Set spec_l4Set_b
 rw [everyE (n := l.length) (fun j => decide (0 ≤ l.getD j 0 ∧ l.getD j 0 ≤ (d.2.length : Int) - 1) && (decide (j = 0) || decide (l.getD (j - 1) 0 < l.getD j 0))) (some false) (some true) (fun k i => spec_l4Set_l0 N k l d.1 d.2 i)
  (fun k => by simp [spec_l4Set_l0, spec_l4Set_l0_b]) (fun k j hj => ?_) (by omega)]
 ·unfold validSet
  split
  ·rename_i h4; rw [decide_eq_true h4]
  ·rename_i h4; rw [decide_eq_false h4]
 ·have h1 : (j : Int) < (l.length : Int) := by omega
  simp only [spec_l4Set_l0, spec_l4Set_l0_b, h1, decide_true, cond_true, inb_lt hj, grd_true, at_lt hj, l1In, Option.bind_some, getD_lt hj, w64_succ (show j < 4611686018427387904 by omega), w64_id (show -9223372036854775808 ≤ (d.2.length : Int) - 1 by omega) (by omega)]
  cases decide (0 ≤ l[j] ∧ l[j] ≤ (d.2.length : Int) - 1) with
  | false => rfl
  | true =>
   simp only [Bool.not_true, cond_false, Bool.true_and]
   by_cases h0 : j = 0
   ·subst h0; simp
   ·have h3 : (j : Int) > 0 := by omega
    have h4 : j - 1 < l.length := by omega
    simp only [h3, decide_true, cond_true, w64_pred (show 0 < j by omega) (by omega), inb_lt h4, grd_true, at_lt h4, h0, decide_false, Bool.false_or, getD_lt h4]
    by_cases h5 : l[j - 1] < l[j]
    ·have : ¬ l[j] ≤ l[j - 1] := by omega
     simp [h5, this]
    ·have : l[j] ≤ l[j - 1] := by omega
     simp [h5, this]
theorem implSet {N : Nat} {n : Nat} {l : List Int} (hn : n ≤ 1048576) (hl : l.length ≤ 1048576) (hN : 1048576 < N) : impl_areIndices N l (n : Int) = some (validSet n l) := by
 unfold impl_areIndices impl_areIndices_b
 rw [everyE (n := l.length) (fun j => decide (0 ≤ l.getD j 0 ∧ l.getD j 0 ≤ (n : Int) - 1) && (decide (j = 0) || decide (l.getD (j - 1) 0 < l.getD j 0))) (some false) (some true) (fun k i => impl_areIndices_l0 N k l (n : Int) l (l.length : Int) i)
  (fun k => by simp [impl_areIndices_l0, impl_areIndices_l0_b]) (fun k j hj => ?_) (by omega)]
 ·unfold validSet
  split
  ·rename_i h4; rw [decide_eq_true h4]
  ·rename_i h4; rw [decide_eq_false h4]
 ·have h1 : (j : Int) < (l.length : Int) := by omega
  simp only [impl_areIndices_l0, impl_areIndices_l0_b, h1, decide_true, cond_true, inb_lt hj, grd_true, at_lt hj, within, Option.bind_some, getD_lt hj, w64_succ (show j < 4611686018427387904 by omega), w64_id (show -9223372036854775808 ≤ (n : Int) - 1 by omega) (by omega)]
  cases decide (0 ≤ l[j] ∧ l[j] ≤ (n : Int) - 1) with
  | false => rfl
  | true =>
   simp only [Bool.not_true, cond_false, Bool.true_and]
   by_cases h0 : j = 0
   ·subst h0; simp
   ·have h3 : (j : Int) > 0 := by omega
    have h4 : j - 1 < l.length := by omega
    simp only [h3, decide_true, cond_true, w64_pred (show 0 < j by omega) (by omega), inb_lt h4, grd_true, at_lt h4, h0, decide_false, Bool.false_or, getD_lt h4]
    by_cases h5 : l[j - 1] < l[j]
    ·have : ¬ l[j - 1] ≥ l[j] := by omega
     simp [h5, this]
    ·have : l[j - 1] ≥ l[j] := by omega
     simp [h5, this]
end Go.PL
namespace Go.PL
set_option linter.unusedVariables false
/-- Edges of a small graph. -/
structure EOk (n : Nat) (E : List (Int × Int)) : Prop where
 few : n ≤ 14
 len : E.length ≤ 196
 all : ∀ e ∈ E, 0 ≤ e.1 ∧ e.1 < e.2 ∧ e.2 < (n : Int)
def ordE (E : List (Int × Int)) (j : Nat) : Bool := decide (j = 0) || (let a := E.getD j (0, 0); let b := E.getD (j - 1) (0, 0); decide (b.1 < a.1) || (decide (b.1 = a.1) && decide (b.2 < a.2)))
def validE (E : List (Int × Int)) : Bool := decide (∀ j, j < E.length → ordE E j = true)
theorem in14 {n : Nat} (h : n ≤ 14) : decide ((0 : Int) ≤ (n : Int) ∧ (n : Int) ≤ 14) = true := decide_eq_true (by omega)
theorem specVE {N n : Nat} {E : List (Int × Int)} (h : EOk n E) (hN : 1048576 < N) : spec_AreValidEdges N n E = some (validE E) := by
 have hf := h.few
 have hl := h.len
 unfold spec_AreValidEdges spec_AreValidEdges_b
 rw [everyE (n := E.length) (ordE E) (some false) (some true) (fun k i => spec_AreValidEdges_l0 N k n E i) (fun k => by simp [spec_AreValidEdges_l0, spec_AreValidEdges_l0_b, l1In]; omega) (fun k j hj => ?_) (by omega)]
 ·unfold validE
  split
  ·rename_i h4; rw [decide_eq_true h4]
  ·rename_i h4; rw [decide_eq_false h4]
 ·have h1 : (j : Int) < (E.length : Int) := by omega
  have h2 := h.all _ (List.getElem_mem hj)
  have e1 : decide (0 ≤ E[j].1 ∧ E[j].1 ≤ E[j].2 - 1) = true := decide_eq_true (by omega)
  have e2 : decide (0 ≤ E[j].2 ∧ E[j].2 ≤ (n : Int) - 1) = true := decide_eq_true (by omega)
  simp only [spec_AreValidEdges_l0, spec_AreValidEdges_l0_b, h1, decide_true, cond_true, inb_lt hj, grd_true, at_lt hj, l1In, Option.bind_some, w64_succ (show j < 4611686018427387904 by omega), w64_id (x := E[j].2 - 1) (by omega) (by omega), w64_id (x := (n : Int) - 1) (by omega) (by omega), e1, e2, Bool.not_true, cond_false]
  by_cases h0 : j = 0
  ·subst h0; simp [ordE]
  ·have h3 : (j : Int) > 0 := by omega
   have h4 : j - 1 < E.length := by omega
   simp only [h3, decide_true, cond_true, w64_pred (show 0 < j by omega) (by omega), inb_lt h4, grd_true, at_lt h4, ordE, h0, decide_false, Bool.false_or, getD_lt h4, getD_lt hj, beqI]
   by_cases h5 : E[j].1 < E[j - 1].1
   ·have a1 : ¬ E[j - 1].1 < E[j].1 := by omega
    have a2 : ¬ E[j - 1].1 = E[j].1 := by omega
    simp [h5, a1, a2]
   ·by_cases h6 : E[j].1 = E[j - 1].1
    ·have a1 : ¬ E[j - 1].1 < E[j].1 := by omega
     by_cases h7 : E[j].2 ≤ E[j - 1].2
     ·have a2 : ¬ E[j - 1].2 < E[j].2 := by omega
      simp [h6, h7, a2]
     ·have a2 : E[j - 1].2 < E[j].2 := by omega
      simp [h6, h7, a2]
    ·have a1 : E[j - 1].1 < E[j].1 := by omega
     simp [h5, h6, a1]
theorem implVE {N n : Nat} {E : List (Int × Int)} (h : EOk n E) (hN : 1048576 < N) : impl_AreValidEdges N n E = some (validE E) := by
 have hf := h.few
 have hl := h.len
 unfold impl_AreValidEdges impl_AreValidEdges_b
 rw [within, Option.bind_some, in14 hf, Bool.not_true, cond_false]
 rw [everyE (n := E.length) (ordE E) (some false) (some true) (fun k i => impl_AreValidEdges_l0 N k n E E (E.length : Int) i) (fun k => by simp [impl_AreValidEdges_l0, impl_AreValidEdges_l0_b]) (fun k j hj => ?_) (by omega)]
 ·unfold validE
  split
  ·rename_i h4; rw [decide_eq_true h4]
  ·rename_i h4; rw [decide_eq_false h4]
 ·have h1 : (j : Int) < (E.length : Int) := by omega
  have h2 := h.all _ (List.getElem_mem hj)
  have e1 : ¬ E[j].1 < 0 := by omega
  have e2 : ¬ E[j].1 ≥ E[j].2 := by omega
  have e3 : ¬ E[j].2 ≥ (n : Int) := by omega
  simp only [impl_AreValidEdges_l0, impl_AreValidEdges_l0_b, h1, decide_true, cond_true, inb_lt hj, grd_true, at_lt hj, w64_succ (show j < 4611686018427387904 by omega), e1, e2, e3, decide_false, cond_false]
  by_cases h0 : j = 0
  ·subst h0; simp [ordE]
  ·have h3 : (j : Int) > 0 := by omega
   have h4 : j - 1 < E.length := by omega
   simp only [h3, decide_true, cond_true, w64_pred (show 0 < j by omega) (by omega), inb_lt h4, grd_true, at_lt h4, ordE, h0, decide_false, Bool.false_or, getD_lt h4, getD_lt hj, beqI]
   by_cases h5 : E[j - 1].1 > E[j].1
   ·have a1 : ¬ E[j - 1].1 < E[j].1 := by omega
    have a2 : ¬ E[j - 1].1 = E[j].1 := by omega
    simp [h5, a1, a2]
   ·by_cases h6 : E[j - 1].1 = E[j].1
    ·by_cases h7 : E[j - 1].2 ≥ E[j].2
     ·have a2 : ¬ E[j - 1].2 < E[j].2 := by omega
      simp [h6, h7, a2]
     ·have a2 : E[j - 1].2 < E[j].2 := by omega
      simp [h6, h7, a2]
    ·have a1 : E[j - 1].1 < E[j].1 := by omega
     simp [h5, h6, a1]

/-- A set meets no edge twice. -/
def indep (E : List (Int × Int)) (s : List Int) : Bool := E.all fun e => !(decide (e.1 ∈ s) && decide (e.2 ∈ s))
theorem all_getD {α : Type} {xs : List α} {p : α → Bool} (d : α) : xs.all p = decide (∀ j, j < xs.length → p (xs.getD j d) = true) := by
 rw [Bool.eq_iff_iff, decide_eq_true_eq, List.all_eq_true]
 constructor
 ·intro h j hj
  rw [getD_lt hj]; exact h _ (List.getElem_mem hj)
 ·intro h x hx
  obtain ⟨j, hj, rfl⟩ := List.mem_iff_getElem.1 hx
  have := h j hj
  rwa [getD_lt hj] at this
theorem specInd {N : Nat} {E : List (Int × Int)} {s : List Int} (he : E.length ≤ 196) (hs : s.length ≤ 1000) (hN : 1048576 < N) : spec_IsIndependent N E s = some (indep E s) := by
 unfold spec_IsIndependent spec_IsIndependent_b indep
 rw [all_getD (0, 0), everyE (n := E.length) (fun j => !(decide ((E.getD j (0, 0)).1 ∈ s) && decide ((E.getD j (0, 0)).2 ∈ s))) (some false) (some true) (fun k i => spec_IsIndependent_l0 N k E s i) (fun k => by simp [spec_IsIndependent_l0, spec_IsIndependent_l0_b]) (fun k j hj => ?_) (by omega)]
 ·split
  ·rename_i h4; rw [decide_eq_true h4]
  ·rename_i h4; rw [decide_eq_false h4]
 ·have h1 : (j : Int) < (E.length : Int) := by omega
  simp only [spec_IsIndependent_l0, spec_IsIndependent_l0_b, h1, decide_true, cond_true, inb_lt hj, grd_true, at_lt hj, getD_lt hj, w64_succ (show j < 4611686018427387904 by omega), specHas (s := s) (by omega) hN, Option.bind_some]
  cases decide (E[j].1 ∈ s) <;> cases decide (E[j].2 ∈ s) <;> rfl
theorem implInd {N : Nat} {E : List (Int × Int)} {s : List Int} (he : E.length ≤ 196) (hs : s.length ≤ 1000) (hN : 1048576 < N) : impl_IsIndependent N E s = some (indep E s) := by
 unfold impl_IsIndependent slices_ContainsFunc_LConflictEdge_ConflictEdge_IsIndependent_c1 slices_IndexFunc_LConflictEdge_ConflictEdge_IsIndependent_c1 slices_IndexFunc_LConflictEdge_ConflictEdge_IsIndependent_c1_b
 rw [contains_of (d := ((0, 0) : Int × Int)) (xs := E) (p := fun e => decide (e.1 ∈ s) && decide (e.2 ∈ s)) (first (n := E.length) (fun j => decide ((E.getD j (0, 0)).1 ∈ s) && decide ((E.getD j (0, 0)).2 ∈ s)) (fun k i => slices_IndexFunc_LConflictEdge_ConflictEdge_IsIndependent_c1_l0 N k E s (E.length : Int) i) (fun k => by simp [slices_IndexFunc_LConflictEdge_ConflictEdge_IsIndependent_c1_l0, slices_IndexFunc_LConflictEdge_ConflictEdge_IsIndependent_c1_l0_b]) (fun k j hj => ?_) (by omega)), Option.bind_some]
 ·unfold indep
  rw [List.all_eq_not_any_not]
  simp
 ·have h1 : (j : Int) < (E.length : Int) := by omega
  simp only [slices_IndexFunc_LConflictEdge_ConflictEdge_IsIndependent_c1_l0, slices_IndexFunc_LConflictEdge_ConflictEdge_IsIndependent_c1_l0_b, impl_IsIndependent_c1, h1, decide_true, cond_true, inb_lt hj, grd_true, at_lt hj, getD_lt hj, w64_succ (show j < 4611686018427387904 by omega), implHas (s := s) (by omega) hN, Option.bind_some]
  cases decide (E[j].1 ∈ s) <;> cases decide (E[j].2 ∈ s) <;> rfl
def fitsE (E : List (Int × Int)) (s : List Int) (x : Int) : Bool := !decide (x ∈ s) && indep E (s ++ [x])
theorem specFits {N : Nat} {E : List (Int × Int)} {s : List Int} {x : Int} (he : E.length ≤ 196) (hs : s.length ≤ 900) (hN : 1048576 < N) : spec_l8Fits N E s x = some (fitsE E s x) := by
 unfold spec_l8Fits fitsE
 rw [specHas (by omega) hN, Option.bind_some]
 cases decide (x ∈ s) with
 | true => rfl
 | false =>
  rw [Bool.not_false, cond_true, appOk_lt (by omega) (by simp only [List.length_nil]; omega), appOk_lt (by omega) (by simp only [List.length_singleton]; omega), specInd he (by simp only [List.length_append, List.length_singleton]; omega) hN]
  rfl
theorem specSet8 {N n : Nat} {l : List Int} (hn : n ≤ 1048576) (hl : l.length ≤ 1048576) (hN : 1048576 < N) : spec_l8Set N n l = some (validSet n l) := by
 unfold spec_l8Set spec_l8Set_b
 rw [everyE (n := l.length) (fun j => decide (0 ≤ l.getD j 0 ∧ l.getD j 0 ≤ (n : Int) - 1) && (decide (j = 0) || decide (l.getD (j - 1) 0 < l.getD j 0))) (some false) (some true) (fun k i => spec_l8Set_l0 N k (n : Int) l i)
  (fun k => by simp [spec_l8Set_l0, spec_l8Set_l0_b]) (fun k j hj => ?_) (by omega)]
 ·unfold validSet
  split
  ·rename_i h4; rw [decide_eq_true h4]
  ·rename_i h4; rw [decide_eq_false h4]
 ·have h1 : (j : Int) < (l.length : Int) := by omega
  simp only [spec_l8Set_l0, spec_l8Set_l0_b, h1, decide_true, cond_true, inb_lt hj, grd_true, at_lt hj, l1In, Option.bind_some, getD_lt hj, w64_succ (show j < 4611686018427387904 by omega), w64_id (show -9223372036854775808 ≤ (n : Int) - 1 by omega) (by omega)]
  cases decide (0 ≤ l[j] ∧ l[j] ≤ (n : Int) - 1) with
  | false => rfl
  | true =>
   simp only [Bool.not_true, cond_false, Bool.true_and]
   by_cases h0 : j = 0
   ·subst h0; simp
   ·have h3 : (j : Int) > 0 := by omega
    have h4 : j - 1 < l.length := by omega
    simp only [h3, decide_true, cond_true, w64_pred (show 0 < j by omega) (by omega), inb_lt h4, grd_true, at_lt h4, h0, decide_false, Bool.false_or, getD_lt h4]
    by_cases h5 : l[j - 1] < l[j]
    ·have : ¬ l[j] ≤ l[j - 1] := by omega
     simp [h5, this]
    ·have : l[j] ≤ l[j - 1] := by omega
     simp [h5, this]
/-- A set to which nothing fits. -/
def maxI (n : Nat) (E : List (Int × Int)) (s : List Int) : Bool := validE E && (validSet n s && (indep E s && decide (∀ x, x < n → (!fitsE E s x) = true)))
theorem specMax {N n : Nat} {E : List (Int × Int)} {s : List Int} (h : EOk n E) (hs : s.length ≤ 900) (hN : 1048576 < N) : spec_IsMaximalIndependent N n E s = some (maxI n E s) := by
 have hf := h.few
 unfold spec_IsMaximalIndependent spec_IsMaximalIndependent_b maxI
 rw [specVE h hN, specSet8 (by omega) (by omega) hN, specInd h.len (by omega) hN, Option.bind_some, Option.bind_some, Option.bind_some]
 cases validE E with
 | false => rfl
 | true =>
  cases validSet n s with
  | false => rfl
  | true =>
   cases indep E s with
   | false => rfl
   | true =>
    simp only [Bool.not_true, cond_false, Bool.true_and]
    refine every (n := n) (fun x => !fitsE E s x) (fun k i => spec_IsMaximalIndependent_l0 N k n E s i) (fun k => by simp [spec_IsMaximalIndependent_l0, spec_IsMaximalIndependent_l0_b]) (fun k j hj => ?_) (by omega)
    have h1 : (j : Int) < (n : Int) := by omega
    simp only [spec_IsMaximalIndependent_l0, spec_IsMaximalIndependent_l0_b, h1, decide_true, cond_true, specFits h.len hs hN, Option.bind_some, w64_succ (show j < 4611686018427387904 by omega)]
    cases fitsE E s j <;> simp
theorem cloneOk {N : Nat} {s : List Int} (hs : s.length ≤ 1000) : slices_Clone_Lint_int N s = some s := by
 unfold slices_Clone_Lint_int
 rw [decide_eq_true (by omega), grd_true]
theorem implMax {N n : Nat} {E : List (Int × Int)} {s : List Int} (h : EOk n E) (hs : s.length ≤ 900) (hN : 1048576 < N) : impl_IsMaximalIndependent N n E s = some (maxI n E s) := by
 have hf := h.few
 unfold impl_IsMaximalIndependent impl_IsMaximalIndependent_b impl_isIndependentSet maxI
 rw [implVE h hN, implSet (by omega) (by omega) hN, implInd h.len (by omega) hN, Option.bind_some, Option.bind_some, Option.bind_some]
 cases validE E with
 | false => rfl
 | true =>
  cases validSet n s with
  | false => rfl
  | true =>
   cases indep E s with
   | false => rfl
   | true =>
    simp only [Bool.not_true, cond_false, cond_true, Option.bind_some, Bool.true_and]
    refine every (n := n) (fun x => !fitsE E s x) (fun k i => impl_IsMaximalIndependent_l0 N k E s n i) (fun k => by simp [impl_IsMaximalIndependent_l0, impl_IsMaximalIndependent_l0_b]) (fun k j hj => ?_) (by omega)
    have h1 : (j : Int) < (n : Int) := by omega
    simp only [impl_IsMaximalIndependent_l0, impl_IsMaximalIndependent_l0_b, h1, decide_true, cond_true, implHas (s := s) (by omega) hN, Option.bind_some, w64_succ (show j < 4611686018427387904 by omega), cloneOk (N := N) (s := s) (by omega)]
    rw [appOk_lt (by omega) (by simp only [List.length_singleton]; omega), grd_true, implInd h.len (by simp only [List.length_append, List.length_singleton]; omega) hN, Option.bind_some]
    unfold fitsE
    cases decide ((j : Int) ∈ s) <;> cases indep E (s ++ [(j : Int)]) <;> simp
end Go.PL
namespace Go.PL
set_option linter.unusedVariables false
/-- All maximal sets that go on from s, in order. -/
def walk (n : Nat) (E : List (Int × Int)) : Nat → List Int → Nat → List (List Int)
 | 0, s, x => if maxI n E s then [s] else []
 | m + 1, s, x => (if indep E (s ++ [(x : Int)]) then walk n E m (s ++ [(x : Int)]) (x + 1) else []) ++ walk n E m s (x + 1)
theorem walk_len {n : Nat} {E : List (Int × Int)} : ∀ (m : Nat) (s : List Int) (x : Nat), (walk n E m s x).length ≤ 2 ^ m
 | 0, s, x => by simp only [walk]; split <;> simp
 | m + 1, s, x => by
  have h1 := walk_len (n := n) (E := E) m (s ++ [(x : Int)]) (x + 1)
  have h2 := walk_len (n := n) (E := E) m s (x + 1)
  simp only [walk, List.length_append, Nat.pow_succ]
  split
  ·omega
  ·simp only [List.length_nil]; omega
theorem walk_mem {n : Nat} {E : List (Int × Int)} : ∀ (m : Nat) (s : List Int) (x : Nat), s.length ≤ x → ∀ r ∈ walk n E m s x, r.length ≤ x + m
 | 0, s, x, hs, r, hr => by
  simp only [walk] at hr
  split at hr
  ·simp only [List.mem_singleton] at hr; subst hr; omega
  ·simp at hr
 | m + 1, s, x, hs, r, hr => by
  simp only [walk, List.mem_append] at hr
  rcases hr with hr | hr
  ·split at hr
   ·have := walk_mem m (s ++ [(x : Int)]) (x + 1) (by simp; omega) r hr
    omega
   ·simp at hr
  ·have := walk_mem m s (x + 1) (by omega) r hr
   omega
/-- Does x touch an edge. -/
def touch (x : Int) (e : Int × Int) : Bool := decide (e.1 = x) || decide (e.2 = x)
theorem indep_free {E : List (Int × Int)} {s : List Int} {y : Int} (h : E.any (touch y) = false) (hi : indep E s = true) : indep E (s ++ [y]) = true := by
 unfold indep at *
 rw [List.all_eq_true] at *
 intro e he
 have h1 := hi e he
 have h2 : ¬ (touch y e = true) := fun h3 => by
  have : E.any (touch y) = true := List.any_eq_true.2 ⟨e, he, h3⟩
  rw [h] at this; exact absurd this (by decide)
 have h3 : e.1 ≠ y ∧ e.2 ≠ y := by
  simp only [touch, Bool.or_eq_true, decide_eq_true_eq, not_or] at h2
  exact h2
 have m1 : (e.1 ∈ s ++ [y]) ↔ e.1 ∈ s := by simp [h3.1]
 have m2 : (e.2 ∈ s ++ [y]) ↔ e.2 ∈ s := by simp [h3.2]
 simp only [m1, m2]
 exact h1
/-- Whoever is left out and touches nothing could be put in. -/
theorem walk_free {n : Nat} {E : List (Int × Int)} {y : Nat} (hy : y < n) (h : E.any (touch y) = false) : ∀ (m : Nat) (s : List Int) (x : Nat), y < x → (y : Int) ∉ s → walk n E m s x = []
 | 0, s, x, hx, hs => by
  simp only [walk]
  rw [if_neg]
  intro hm
  simp only [maxI, Bool.and_eq_true, decide_eq_true_eq] at hm
  have := hm.2.2.2 y hy
  rw [fitsE, decide_eq_false hs, indep_free h hm.2.2.1] at this
  simp at this
 | m + 1, s, x, hx, hs => by
  simp only [walk]
  rw [walk_free hy h m s (x + 1) (by omega) hs, List.append_nil]
  split
  ·exact walk_free hy h m _ (x + 1) (by omega) (by simp only [List.mem_append, List.mem_singleton, not_or]; exact ⟨hs, by omega⟩)
  ·rfl
theorem specMet {N : Nat} {E : List (Int × Int)} (he : E.length ≤ 196) (Rf : Int → List (Int × Int) → List Int → Int → Option (List (List Int))) (n : Int) (s : List Int) (x : Nat) (hx : x ≤ 1000) (out : List (List Int)) :
  ∀ {f j : Nat} {met : Bool}, E.length - j < f → j ≤ E.length → spec_l8Walk_l0 N Rf f n E s x out met (j : Int) = bif met || (E.drop j).any (touch x) then ((Rf n E s ((x + 1 : Nat) : Int)).bind fun r4 => grd (appOk out r4 24) <| some (out ++ r4)) else some out
 | 0, j, met, hf, hj => by omega
 | f + 1, j, met, hf, hj => by
  by_cases h : j < E.length
  ·have e1 : (j : Int) < (E.length : Int) := by omega
   simp only [spec_l8Walk_l0, spec_l8Walk_l0_b, e1, decide_true, cond_true, inb_lt h, grd_true, at_lt h, w64_succ (show j < 4611686018427387904 by omega)]
   rw [any_drop h]
   cases met with
   | true => rw [cond_true, specMet he Rf n s x hx out (by omega) h]; rfl
   | false =>
    rw [cond_false, beqI, beqI]
    unfold touch
    cases decide (E[j].1 = (x : Int)) with
    | true => rw [cond_true, specMet he Rf n s x hx out (by omega) h]; rfl
    | false =>
     rw [cond_false, specMet he Rf n s x hx out (by omega) h]
     simp only [Bool.false_or]
     rfl
  ·have : j = E.length := by omega
   subst this
   simp only [spec_l8Walk_l0, spec_l8Walk_l0_b, Int.lt_irrefl, decide_false, cond_false, List.drop_length, List.any_nil, Bool.or_false, w64_succ (show x < 4611686018427387904 by omega)]
theorem two14 {m : Nat} (h : m ≤ 14) : 2 ^ m ≤ 16384 := Nat.pow_le_pow_right (n := 2) (by decide) h
theorem specWalk {N n : Nat} {E : List (Int × Int)} (h : EOk n E) (hN : 1048576 < N) : ∀ (m f : Nat) (s : List Int) (x : Nat), m < f → x + m = n → s.length ≤ x → (∀ y ∈ s, y < (x : Int)) → spec_l8Walk_r N f n E s x = some (walk n E m s x)
 | _, 0, _, _, hf, _, _, _ => by omega
 | 0, f + 1, s, x, hf, hx, hl, hs => by
  have hn := h.few
  obtain rfl : x = n := by omega
  simp only [spec_l8Walk_r, spec_l8Walk_b, beqI, decide_true, cond_true, specMax h (s := s) (by omega) hN, Option.bind_some, walk]
  cases maxI x E s with
  | true => rw [cond_true, appOk_lt (by omega) (by simp only [List.length_nil]; omega)]; rfl
  | false => rfl
 | m + 1, f + 1, s, x, hf, hx, hl, hs => by
  have hn := h.few
  have hne : ¬ (x : Int) = (n : Int) := by omega
  have hxs : (x : Int) ∉ s := fun hm => by have := hs _ hm; omega
  have i1 := specWalk h hN m f (s ++ [(x : Int)]) (x + 1) (by omega) (by omega) (by simp; omega) (fun y hy => by
   simp only [List.mem_append, List.mem_singleton] at hy
   rcases hy with hy | hy
   ·have := hs y hy; omega
   ·omega)
  have i2 := specWalk h hN m f s (x + 1) (by omega) (by omega) (by omega) (fun y hy => by have := hs y hy; omega)
  have p1 := walk_len (n := n) (E := E) m (s ++ [(x : Int)]) (x + 1)
  have p2 := walk_len (n := n) (E := E) m s (x + 1)
  have p3 := two14 (m := m) (by omega)
  have fin : ∀ out : List (List Int), out.length ≤ 16384 → spec_l8Walk_l0 N (spec_l8Walk_r N f) N n E s x out false 0 = some (out ++ walk n E m s (x + 1)) := by
   intro out ho
   have := specMet (N := N) h.len (spec_l8Walk_r N f) n s x (by omega) out (f := N) (j := 0) (met := false) (by have := h.len; omega) (by omega)
   rw [show ((0 : Nat) : Int) = 0 from rfl] at this
   rw [this, List.drop_zero, Bool.false_or, i2, Option.bind_some, appOk_lt (by omega) (by omega), grd_true]
   cases ht : E.any (touch x) with
   | true => rfl
   | false => rw [cond_false, walk_free (by omega) ht m s (x + 1) (by omega) hxs, List.append_nil]
  simp only [spec_l8Walk_r, spec_l8Walk_b, beqI, decide_eq_false hne, cond_false, specFits h.len (show s.length ≤ 900 by omega) hN, Option.bind_some, fitsE, decide_eq_false hxs, Bool.not_false, Bool.true_and, walk]
  cases indep E (s ++ [(x : Int)]) with
  | true =>
   rw [cond_true, appOk_lt (by omega) (by simp only [List.length_nil]; omega), appOk_lt (by omega) (by simp only [List.length_singleton]; omega), grd_true, grd_true, w64_succ (by omega), i1, Option.bind_some, fin _ (by omega)]
   rfl
  | false =>
   rw [cond_false, fin [] (by simp)]
   rfl
theorem implWalk {N n : Nat} {E : List (Int × Int)} (h : EOk n E) (hN : 1048576 < N) : ∀ (m f : Nat) (s : List Int) (x : Nat) (out : List (List Int)), m < f → x + m = n → s.length ≤ x → out.length + 2 ^ m ≤ 100000 → impl_MaximalIndependentSets_c1_r N f x s n E out n E = some (out ++ walk n E m s x)
 | _, 0, _, _, _, hf, _, _, _ => by omega
 | 0, f + 1, s, x, out, hf, hx, hl, ho => by
  have hn := h.few
  obtain rfl : x = n := by omega
  simp only [impl_MaximalIndependentSets_c1_r, impl_MaximalIndependentSets_c1_b, beqI, decide_true, cond_true, implMax h (s := s) (by omega) hN, Option.bind_some, walk]
  cases maxI x E s with
  | true => rw [cond_true, appOk_lt (by omega) (by simp only [List.length_nil]; omega), appOk_lt (by omega) (by simp only [List.length_singleton]; omega)]; rfl
  | false => simp
 | m + 1, f + 1, s, x, out, hf, hx, hl, ho => by
  have hn := h.few
  have hne : ¬ (x : Int) = (n : Int) := by omega
  rw [Nat.pow_succ] at ho
  have p1 := walk_len (n := n) (E := E) m (s ++ [(x : Int)]) (x + 1)
  simp only [impl_MaximalIndependentSets_c1_r, impl_MaximalIndependentSets_c1_b, beqI, decide_eq_false hne, cond_false, cloneOk (N := N) (s := s) (by omega), Option.bind_some]
  rw [appOk_lt (by omega) (by simp only [List.length_singleton]; omega), grd_true, implInd h.len (by simp only [List.length_append, List.length_singleton]; omega) hN, Option.bind_some, w64_succ (by omega)]
  simp only [walk]
  cases indep E (s ++ [(x : Int)]) with
  | true =>
   rw [cond_true, implWalk h hN m f (s ++ [(x : Int)]) (x + 1) out (by omega) (by omega) (by simp; omega) (by omega), Option.bind_some, implWalk h hN m f s (x + 1) _ (by omega) (by omega) (by omega) (by rw [List.length_append]; omega), Option.bind_some, List.append_assoc]
   rfl
  | false =>
   rw [cond_false, implWalk h hN m f s (x + 1) out (by omega) (by omega) (by omega) (by omega), Option.bind_some]
   rfl
theorem edges_ok {d : Db} {l : List Con} (hv : ValidDb d) : EOk d.2.length (edgesOf d l) := by
 refine ⟨hv.few, edges_len hv l, fun e he => ?_⟩
 unfold edgesOf at he
 obtain ⟨i, hi, he⟩ := List.mem_flatMap.1 he
 unfold edgeR at he
 obtain ⟨k, hk, he⟩ := List.mem_flatMap.1 he
 unfold edgeP at he
 have h1 := List.mem_range.1 hi
 have h2 := List.mem_range'.1 hk
 obtain ⟨q, h3, h4⟩ := h2
 split at he
 ·simp only [List.mem_singleton] at he
  subst he
  simp only
  omega
 ·simp at he
def maxSets (n : Nat) (E : List (Int × Int)) : List (List Int) := if validE E then walk n E n [] 0 else []
theorem specSets {N n : Nat} {E : List (Int × Int)} (h : EOk n E) (hN : 1048576 < N) : spec_MaximalIndependentSets N n E = some (maxSets n E) := by
 have hn := h.few
 unfold spec_MaximalIndependentSets spec_l8Walk maxSets
 rw [specVE h hN, Option.bind_some]
 cases validE E with
 | false => rfl
 | true =>
  have := specWalk h hN n N [] 0 (by omega) (by omega) (by simp) (by simp)
  rw [show ((0 : Nat) : Int) = 0 from rfl] at this
  rw [Bool.not_true, cond_false, this]
  rfl
theorem implSets {N n : Nat} {E : List (Int × Int)} (h : EOk n E) (hN : 1048576 < N) : impl_MaximalIndependentSets N n E = some (maxSets n E) := by
 have hn := h.few
 have p := two14 hn
 unfold impl_MaximalIndependentSets impl_MaximalIndependentSets_c1 maxSets
 rw [implVE h hN, Option.bind_some]
 cases validE E with
 | false => rfl
 | true =>
  have := implWalk h hN n N [] 0 [] (by omega) (by omega) (by simp) (by simp only [List.length_nil]; omega)
  rw [show ((0 : Nat) : Int) = 0 from rfl] at this
  rw [Bool.not_true, cond_false, this]
  rfl
def subsets (d : Db) (l : List Con) : List (List Int) := if validDb d then maxSets d.2.length (edgesOf d l) else []
theorem specSubsets {N : Nat} {d : Db} {l : List Con} (h : SmallDb d) (hl : l.length ≤ 1048576) (hN : 1048576 < N) : spec_SubsetRepairs N d l = some (subsets d l) := by
 unfold spec_SubsetRepairs subsets
 rw [specDb h hN, Option.bind_some]
 cases hv : validDb d with
 | false => rfl
 | true =>
  rw [Bool.not_true, cond_false, specEdges h hl hN, Option.bind_some, hv, if_pos rfl, specSets (edges_ok (validDb_of hv)) hN]
  rfl
theorem implSubsets {N : Nat} {d : Db} {l : List Con} (h : SmallDb d) (hl : l.length ≤ 1048576) (hN : 1048576 < N) : impl_SubsetRepairs N d l = some (subsets d l) := by
 unfold impl_SubsetRepairs subsets
 rw [implDb h hN, Option.bind_some]
 cases hv : validDb d with
 | false => rfl
 | true =>
  rw [Bool.not_true, cond_false, implEdges h hl hN, Option.bind_some, hv, if_pos rfl, implSets (edges_ok (validDb_of hv)) hN]
  rfl
theorem subsets_few (d : Db) (l : List Con) : (subsets d l).length ≤ 16384 ∧ ∀ r ∈ subsets d l, r.length ≤ 14 := by
 unfold subsets
 by_cases hv : validDb d = true
 ·rw [if_pos hv]
  have hn := (validDb_of hv).few
  unfold maxSets
  split
  ·refine ⟨Nat.le_trans (walk_len _ _ _) (two14 hn), fun r hr => ?_⟩
   have := walk_mem d.2.length [] 0 (by simp) r hr
   omega
  ·exact ⟨by simp, by simp⟩
 ·rw [if_neg hv]; exact ⟨by simp, by simp⟩
end Go.PL
namespace Go.PL
set_option linter.unusedVariables false
/-- Two rows in strict order with the same members are one. -/
theorem sorted_ext : ∀ {a b : List Int}, a.Pairwise (· < ·) → b.Pairwise (· < ·) → (∀ x, x ∈ a ↔ x ∈ b) → a = b
 | [], [], _, _, _ => rfl
 | [], y :: b, _, _, h => by have := (h y).2 (by simp); simp at this
 | x :: a, [], _, _, h => by have := (h x).1 (by simp); simp at this
 | x :: a, y :: b, ha, hb, h => by
  rw [List.pairwise_cons] at ha hb
  have e : x = y := by
   have h1 := (h x).1 (by simp)
   have h2 := (h y).2 (by simp)
   rcases List.mem_cons.1 h1 with h1 | h1
   ·exact h1
   ·rcases List.mem_cons.1 h2 with h2 | h2
    ·exact h2.symm
    ·have := ha.1 y h2
     have := hb.1 x h1
     omega
  subst e
  rw [sorted_ext ha.2 hb.2 fun z => ?_]
  have hz := h z
  simp only [List.mem_cons] at hz
  constructor
  ·intro hm
   have := ha.1 z hm
   rcases hz.1 (.inr hm) with h3 | h3
   ·omega
   ·exact h3
  ·intro hm
   have := hb.1 z hm
   rcases hz.2 (.inr hm) with h3 | h3
   ·omega
   ·exact h3
end Go.PL
namespace Go.PL
theorem validSet_sorted {n : Nat} {l : List Int} (h : validSet n l = true) : l.Pairwise (· < ·) := by
 have step : ∀ j (hj : j < l.length), 0 < j → l[j - 1]'(by omega) < l[j] := by
  intro j hj h0
  have := of_decide_eq_true h j hj
  rw [Bool.and_eq_true, Bool.or_eq_true, decide_eq_true_eq, decide_eq_true_eq, decide_eq_true_eq, getD_lt hj, getD_lt (show j - 1 < l.length by omega)] at this
  rcases this.2 with h1 | h1
  ·omega
  ·exact h1
 rw [List.pairwise_iff_getElem]
 intro i j hi hj hij
 induction j with
 | zero => omega
 | succ j ih =>
  have hs := step (j + 1) hj (by omega)
  simp only [Nat.add_sub_cancel] at hs
  by_cases e : i = j
  ·subst e; exact hs
  ·have := ih (by omega) (by omega)
   omega
theorem walk_valid {n : Nat} {E : List (Int × Int)} : ∀ (m : Nat) (s : List Int) (x : Nat), ∀ r ∈ walk n E m s x, validSet n r = true
 | 0, s, x, r, hr => by
  simp only [walk] at hr
  split at hr
  ·rename_i hm
   simp only [List.mem_singleton] at hr
   subst hr
   simp only [maxI, Bool.and_eq_true] at hm
   exact hm.2.1
  ·simp at hr
 | m + 1, s, x, r, hr => by
  simp only [walk, List.mem_append] at hr
  rcases hr with hr | hr
  ·split at hr
   ·exact walk_valid m _ _ r hr
   ·simp at hr
  ·exact walk_valid m _ _ r hr
theorem subsets_sorted (d : Db) (l : List Con) : ∀ r ∈ subsets d l, r.Pairwise (· < ·) := by
 intro r hr
 unfold subsets at hr
 by_cases hv : validDb d = true
 ·rw [if_pos hv] at hr
  unfold maxSets at hr
  split at hr
  ·exact validSet_sorted (walk_valid _ _ _ r hr)
  ·simp at hr
 ·rw [if_neg hv] at hr; simp at hr
def common (s A : List Int) : Nat := (s.filter fun x => decide (x ∈ A)).length
theorem common_comm {s A : List Int} (hs : s.Pairwise (· < ·)) (hA : A.Pairwise (· < ·)) : common s A = common A s := by
 unfold common
 rw [sorted_ext (a := s.filter fun x => decide (x ∈ A)) (b := A.filter fun x => decide (x ∈ s)) (hs.filter _) (hA.filter _) fun x => by
  simp only [List.mem_filter, decide_eq_true_eq]
  exact And.comm]
theorem filter_split (A : List Int) (p : Int → Bool) : (A.filter p).length + (A.filter fun x => !p x).length = A.length := by
 induction A with
 | nil => rfl
 | cons x A ih =>
  simp only [List.filter_cons, List.length_cons]
  cases p x <;> simp <;> omega
def bestStep (s : List Int) (b : Int × List Int) (A : List Int) : Int × List Int := if (common s A : Int) > b.1 then ((common s A : Int), A) else b
def closest (d : Db) (l : List Con) (s : List Int) : List Int × Bool :=
 if validSet d.2.length s then (((subsets d l).foldl (bestStep s) (-1, [])).2, decide (((subsets d l).foldl (bestStep s) (-1, [])).1 ≥ 0)) else ([], false)
theorem best_in (s : List Int) : ∀ (L : List (List Int)) (b : Int × List Int), (L.foldl (bestStep s) b).2 = b.2 ∨ (L.foldl (bestStep s) b).2 ∈ L
 | [], b => .inl rfl
 | A :: L, b => by
  rw [List.foldl_cons]
  rcases best_in s L (bestStep s b A) with h | h
  ·rw [h]
   unfold bestStep
   split
   ·right; simp
   ·left; rfl
  ·right; simp [h]
theorem closest_few (d : Db) (l : List Con) (s : List Int) : (closest d l s).1.length ≤ 14 := by
 unfold closest
 split
 ·rcases best_in s (subsets d l) (-1, []) with h | h
  ·rw [h]; simp
  ·exact (subsets_few d l).2 _ h
 ·simp
theorem specCount {N : Nat} {d : Db} {s : List Int} {best : Int} {out : List Int} {all : List (List Int)} {i : Nat} (hi : i < all.length) (ha : (all[i]).length ≤ 14) (hs : s.length ≤ 1048576) (hN : 1048576 < N) (R : List Int → List (ByteArray × Int × Int) → List (Int × List Int) → Int → List Int → List (List Int) → Int → Option (List Int × Bool)) :
  spec_ClosestRepair_l1 R N N s d.1 d.2 best out all (i : Int) 0 0 = R s d.1 d.2 (bestStep s (best, out) all[i]).1 (bestStep s (best, out) all[i]).2 all (w64 ((i : Int) + 1)) := by
 have := loop (fun k (q : Nat) => spec_ClosestRepair_l1 R N k s d.1 d.2 best out all (i : Int) (common (s.take q) all[i] : Int) (q : Int)) (fun q => q ≤ s.length) (fun q => s.length - q) (fun o => o = R s d.1 d.2 (bestStep s (best, out) all[i]).1 (bestStep s (best, out) all[i]).2 all (w64 ((i : Int) + 1))) (fun k q hq' => by
  simp only [spec_ClosestRepair_l1, spec_ClosestRepair_l1_b]
  by_cases hq : q < s.length
  ·right
   refine ⟨q + 1, hq, by omega, ?_⟩
   have e1 : (q : Int) < (s.length : Int) := by omega
   have hc : common (s.take q) all[i] ≤ 1048576 := by
    have := List.length_filter_le (fun x => decide (x ∈ all[i])) (s.take q)
    rw [List.length_take] at this
    unfold common
    omega
   simp only [e1, decide_true, cond_true, inb_lt hi, grd_true, at_lt hi, inb_lt hq, at_lt hq, specHas (s := all[i]) (by omega) hN, Option.bind_some, w64_succ (show q < 4611686018427387904 by omega)]
   have e2 : common (s.take (q + 1)) all[i] = common (s.take q) all[i] + (if s[q] ∈ all[i] then 1 else 0) := by
    unfold common
    rw [List.take_succ_eq_append_getElem hq, List.filter_append, List.length_append]
    by_cases hm : s[q] ∈ all[i] <;> simp [hm]
   by_cases hm : s[q] ∈ all[i]
   ·rw [decide_eq_true hm, cond_true, w64_succ (by omega), e2, if_pos hm]
   ·rw [decide_eq_false hm, cond_false, e2, if_neg hm]
    rfl
  ·left
   have : q = s.length := by omega
   subst this
   simp only [Int.lt_irrefl, decide_false, cond_false, inb_lt hi, grd_true, at_lt hi, List.take_length]
   unfold bestStep
   by_cases hb : (common s all[i] : Int) > best
   ·rw [decide_eq_true hb, cond_true, if_pos hb, appOk_lt (by omega) (by simp only [List.length_nil]; omega), grd_true]
   ·rw [decide_eq_false hb, cond_false, if_neg hb]) N 0 (by omega) (by omega)
 exact this
theorem specClosest {N : Nat} {d : Db} {l : List Con} {s : List Int} (h : SmallDb d) (hl : l.length ≤ 1048576) (hs : s.length ≤ 1048576) (hN : 1048576 < N) : spec_ClosestRepair N d l s = some (closest d l s) := by
 obtain ⟨f1, f2⟩ := subsets_few d l
 unfold spec_ClosestRepair spec_ClosestRepair_b
 rw [specSubsets h hl hN, Option.bind_some]
 unfold closest
 generalize subsets d l = L at *
 cases hv : validSet d.2.length s with
 | false =>
  obtain ⟨M, rfl⟩ : ∃ M, N = M + 1 := ⟨N - 1, by omega⟩
  have e := specSet (N := M + 1) (l := s) h hs hN
  have e : spec_l4Set (M + 1) (d.1, d.2) s = some (validSet d.2.length s) := e
  simp only [spec_ClosestRepair_l0, spec_ClosestRepair_l0_b, e, hv, Option.bind_some, cond_false]
  cases decide ((0 : Int) < (L.length : Int)) <;> rfl
 | true =>
  rw [if_pos rfl]
  have := loop (fun k (j : Nat) => spec_ClosestRepair_l0 N k s d.1 d.2 ((L.take j).foldl (bestStep s) (-1, [])).1 ((L.take j).foldl (bestStep s) (-1, [])).2 L (j : Int)) (fun j => j ≤ L.length) (fun j => L.length - j) (fun o => o = some ((L.foldl (bestStep s) (-1, [])).2, decide ((L.foldl (bestStep s) (-1, [])).1 ≥ 0))) (fun k j hj' => by
   simp only [spec_ClosestRepair_l0, spec_ClosestRepair_l0_b]
   by_cases hj : j < L.length
   ·right
    refine ⟨j + 1, hj, by omega, ?_⟩
    have e1 : (j : Int) < (L.length : Int) := by omega
    have e : spec_l4Set N (d.1, d.2) s = some (validSet d.2.length s) := specSet (l := s) h hs hN
    simp only [e1, decide_true, cond_true, e, hv, Option.bind_some]
    rw [specCount (d := d) hj (f2 _ (List.getElem_mem hj)) hs hN, w64_succ (by omega), List.take_succ_eq_append_getElem hj, List.foldl_append]
    rfl
   ·left
    have : j = L.length := by omega
    subst this
    simp only [Int.lt_irrefl, decide_false, cond_false, List.take_length]) N 0 (by omega) (by omega)
  exact this
theorem implWithout {N : Nat} {A s : List Int} (hA : A.length ≤ 14) (hs : s.length ≤ 1048576) (hN : 1048576 < N) : impl_without N A s = some (A.filter fun x => !decide (x ∈ s)) := by
 unfold impl_without impl_without_b
 have e : (A.filter fun x => !decide (x ∈ s)) = A.flatMap fun x => if decide (x ∈ s) then [] else [x] := by
  induction A with
  | nil => rfl
  | cons x A ih =>
   rw [List.filter_cons, List.flatMap_cons, ← ih (by simp at hA; omega)]
   by_cases hm : x ∈ s <;> simp [hm]
 rw [e]
 refine collect (a := A) (fun x => if decide (x ∈ s) then [] else [x]) (f := fun k o i => impl_without_l0 N k s o A (A.length : Int) i) (fun x _ => by split <;> simp) (fun k o => by simp [impl_without_l0, impl_without_l0_b]) (fun k o j hj ho => ?_) (by omega)
 have h1 : (j : Int) < (A.length : Int) := by omega
 simp only [impl_without_l0, impl_without_l0_b, h1, decide_true, cond_true, inb_lt hj, grd_true, at_lt hj, implHas hs hN, Option.bind_some, w64_succ (show j < 4611686018427387904 by omega)]
 by_cases hm : A[j] ∈ s
 ·simp [hm]
 ·rw [decide_eq_false hm, Bool.not_false, cond_true, appOk_lt (by omega) (by simp only [List.length_singleton]; omega), grd_true]
  rfl
theorem implCount {A s : List Int} (hA : A.length ≤ 14) (h1 : s.Pairwise (· < ·)) (h2 : A.Pairwise (· < ·)) : w64 ((A.length : Int) - ((A.filter fun x => !decide (x ∈ s)).length : Int)) = (common s A : Int) := by
 have e := filter_split A fun x => decide (x ∈ s)
 have e2 : common s A = (A.filter fun x => decide (x ∈ s)).length := common_comm h1 h2
 have e3 := List.length_filter_le (fun x => !decide (x ∈ s)) A
 rw [w64_id (by omega) (by omega), e2]
 omega
theorem implC1 {N : Nat} {s : List Int} {L : List (List Int)} (hs : s.length ≤ 1048576) (h1 : s.Pairwise (· < ·)) (hL : L.length ≤ 16384) (f2 : ∀ r ∈ L, r.length ≤ 14) (f3 : ∀ r ∈ L, r.Pairwise (· < ·)) (hN : 1048576 < N) : ∀ (f j : Nat) (outi : Int) (b : Int × List Int), L.length - j < f → j ≤ L.length → impl_ClosestRepair_l1 N f s outi b.2 b.1 L (L.length : Int) (j : Int) = some (((L.drop j).foldl (bestStep s) b).2, decide (((L.drop j).foldl (bestStep s) b).1 ≥ 0))
 | 0, j, outi, b, hf, hj => by omega
 | f + 1, j, outi, b, hf, hj' => by
  by_cases hj : j < L.length
  ·have e1 : (j : Int) < (L.length : Int) := by omega
   have hm := List.getElem_mem hj
   have hw := implWithout (f2 _ hm) hs hN
   have hc := implCount (f2 _ hm) h1 (f3 _ hm)
   simp only [impl_ClosestRepair_l1, impl_ClosestRepair_l1_b, e1, decide_true, cond_true, inb_lt hj, grd_true, at_lt hj, hw, Option.bind_some, hc, w64_succ (show j < 4611686018427387904 by omega)]
   rw [List.drop_eq_getElem_cons hj, List.foldl_cons]
   by_cases hb : (common s L[j] : Int) > b.1
   ·have eb : bestStep s b L[j] = ((common s L[j] : Int), L[j]) := by unfold bestStep; rw [if_pos hb]
    rw [decide_eq_true hb, cond_true, eb]
    exact implC1 hs h1 hL f2 f3 hN f (j + 1) (j : Int) ((common s L[j] : Int), L[j]) (by omega) hj
   ·have eb : bestStep s b L[j] = b := by unfold bestStep; rw [if_neg hb]
    rw [decide_eq_false hb, cond_false, eb]
    exact implC1 hs h1 hL f2 f3 hN f (j + 1) outi b (by omega) hj
  ·have : j = L.length := by omega
   subst this
   simp only [impl_ClosestRepair_l1, impl_ClosestRepair_l1_b, Int.lt_irrefl, decide_false, cond_false, List.drop_length, List.foldl_nil]
theorem implC0 {N : Nat} {s : List Int} {L : List (List Int)} (hs : s.length ≤ 1048576) (h1 : s.Pairwise (· < ·)) (hL : L.length ≤ 16384) (f2 : ∀ r ∈ L, r.length ≤ 14) (f3 : ∀ r ∈ L, r.Pairwise (· < ·)) (hN : 1048576 < N) : ∀ (f j : Nat) (b : Int × List Int), L.length - j < f → j ≤ L.length → impl_ClosestRepair_l0 N f s b.2 b.1 L (L.length : Int) (j : Int) = some (((L.drop j).foldl (bestStep s) b).2, decide (((L.drop j).foldl (bestStep s) b).1 ≥ 0))
 | 0, j, b, hf, hj => by omega
 | f + 1, j, b, hf, hj' => by
  by_cases hj : j < L.length
  ·have e1 : (j : Int) < (L.length : Int) := by omega
   have hm := List.getElem_mem hj
   have hw := implWithout (f2 _ hm) hs hN
   have hc := implCount (f2 _ hm) h1 (f3 _ hm)
   simp only [impl_ClosestRepair_l0, impl_ClosestRepair_l0_b, e1, decide_true, cond_true, inb_lt hj, grd_true, at_lt hj, hw, Option.bind_some, hc, w64_succ (show j < 4611686018427387904 by omega)]
   rw [List.drop_eq_getElem_cons hj, List.foldl_cons]
   by_cases hb : (common s L[j] : Int) > b.1
   ·have eb : bestStep s b L[j] = ((common s L[j] : Int), L[j]) := by unfold bestStep; rw [if_pos hb]
    rw [decide_eq_true hb, cond_true, eb]
    exact implC1 hs h1 hL f2 f3 hN f (j + 1) (j : Int) ((common s L[j] : Int), L[j]) (by omega) hj
   ·have eb : bestStep s b L[j] = b := by unfold bestStep; rw [if_neg hb]
    rw [decide_eq_false hb, cond_false, eb]
    exact implC0 hs h1 hL f2 f3 hN f (j + 1) b (by omega) hj
  ·have : j = L.length := by omega
   subst this
   simp only [impl_ClosestRepair_l0, impl_ClosestRepair_l0_b, Int.lt_irrefl, decide_false, cond_false, List.drop_length, List.foldl_nil]
theorem implClosest {N : Nat} {d : Db} {l : List Con} {s : List Int} (h : SmallDb d) (hl : l.length ≤ 1048576) (hs : s.length ≤ 1048576) (hN : 1048576 < N) : impl_ClosestRepair N d l s = some (closest d l s) := by
 obtain ⟨f1, f2⟩ := subsets_few d l
 have f3 := subsets_sorted d l
 unfold impl_ClosestRepair impl_ClosestRepair_b closest
 rw [implDb h hN, Option.bind_some]
 cases hvb : validDb d with
 | false =>
  have : subsets d l = [] := by unfold subsets; rw [hvb]; rfl
  rw [this]
  cases validSet d.2.length s <;> rfl
 | true =>
  rw [Bool.not_true, cond_false, implSet h.facts hs hN, Option.bind_some]
  cases hv : validSet d.2.length s with
  | false => rfl
  | true =>
   rw [Bool.not_true, cond_false, implSubsets h hl hN, Option.bind_some, if_pos rfl]
   exact implC0 hs (validSet_sorted hv) f1 f2 f3 hN N 0 (-1, []) (by omega) (by omega)
theorem law_ClosestRepair {N : Nat} (hN : 1048576 < N) {d : T_Database} {l : T_DenialConstraintS} {s : List Int} (hd : in_Database d) (hl : in_DenialConstraintS l) : laws_FnExactClosestRepair N d l s = some true := by
 unfold laws_FnExactClosestRepair
 by_cases h0 : (s.length : Int) > 1048576
 ·rw [decide_eq_true h0]; rfl
 rw [decide_eq_false h0, cond_false, fsz_Database hd (by omega) (by omega) hN, Option.bind_some]
 by_cases h1 : (s_Database d : Int) ≤ 1048576
 case neg => rw [sub1_neg h1]; rfl
 rw [sub1_pos h1, not_neg (by omega), cond_false, fsz_DenialConstraintS hl (by omega) (by omega) hN, Option.bind_some]
 by_cases h2 : (s_DenialConstraintS l : Int) ≤ 1048576 - (s_Database d : Int)
 case neg => rw [sub1_neg h2]; rfl
 rw [sub1_pos h2, not_neg (by omega), cond_false]
 have hb : b_Database d := b_of_Database (by omega)
 have hbl : b_DenialConstraintS l := b_of_DenialConstraintS (by omega)
 have hbs : b_IntS s := by show s.length ≤ 1048576; omega
 have hss : s.length ≤ 1048576 := hbs
 have hm := mtOk hN
 have hs := smallOf hb
 have hll : l.length ≤ 1048576 := hbl
 have hrl := closest_few d l s
 have hr : b_IntS (closest d l s).1 := Nat.le_trans hrl (by omega)
 have hcd := c_s_Database d
 have hcl := c_s_DenialConstraintS l
 have hcs := c_IntS_eq s
 have hcr := c_IntS_eq (closest d l s).1
 simp only [fto_Database hb hN, fto_DenialConstraintS hbl hN, fto_IntS hbs hN, Option.bind_some, specClosest hs hll hss hN, implClosest hs hll hss hN, feq_IntS hr hN, feq_IntS hbs hN, feq_Database hb hN, feq_DenialConstraintS hbl hN, decide_true, Bool.not_true, cond_false, beq_self_eq_true]
 rw [fmk_Database hm hb (by omega) (by omega) hN, Option.bind_some]
 simp only
 rw [fmk_DenialConstraintS hbl (by omega) (by omega) hN, Option.bind_some]
 simp only
 rw [fmk_IntS hbs (by omega) (by omega) hN, Option.bind_some]
 simp only
 rw [not_neg (by omega), cond_false, fmk_IntS hr (by omega) (by omega) hN, Option.bind_some]
 simp only [fhd_IntS hr (show (0 : Int) ≤ 1 by omega) (by omega) hN, Option.bind_some]
 rw [not_neg (by omega)]
 simp
end Go.PL
