/- The functions read plainly. Conditions: none (definitions alone). -/
import GoSem.Core.View
import GoSem.Op.String

set_option linter.unusedVariables false
set_option linter.unusedSimpArgs false
set_option linter.unnecessarySimpa false

namespace Go.PL
def w64 (x : Int) : Int := IntKind.i64.wrap x
def w (k : IntKind) (x : Int) : Int := k.wrap x
def grd {α : Type} (c : Bool) (x : Option α) : Option α := bif c then x else none
def grz {α : Type} (b : Int) (x : Option α) : Option α := bif decide (b = 0) then none else x
def letv {α β : Type} (v : α) (k : α -> β) : β := k v
def at_ {α : Type} (d : α) (xs : List α) (i : Int) : α := xs.getD i.toNat d
def inb {α : Type} (i : Int) (xs : List α) : Bool := decide (0 <= i) && decide (i < (xs.length : Int))
def growOk {α : Type} (i' i : Int) (xs : List α) : Bool := decide (i' = i) && (decide (0 <= i') && decide (i' < (xs.length : Int)))
def appOk {α : Type} (s x : List α) (b : Nat) : Bool := decide ((s.length + x.length) * b <= 140737488355328)
def makeOk (n : Int) (b : Nat) : Bool := decide (n = n) && (decide (0 <= n) && decide (n * b <= 140737488355328))
def byteAt (s : ByteArray) (n : Int) : Option UInt8 := if 0 <= n then s[n.toNat]? else none
def catOk (a b : ByteArray) : Bool := decide (a.size + b.size <= 140737488355328)
def seq (a b : ByteArray) : Bool := a.toList == b.toList
def slt (a b : ByteArray) : Bool := Op.bytesLess a.toList b.toList
def subOk (lo hi : Int) (n : Nat) : Bool := decide (0 <= lo) && (decide (lo <= hi) && decide (hi <= (n : Int)))
def sub (s : ByteArray) (lo hi : Int) : ByteArray := s.extract lo.toNat hi.toNat
def ofBytes (x : List Int) : ByteArray := ⟨(x.map fun n => UInt8.ofNat n.toNat).toArray⟩
def bits (op : BinOp) (k : IntKind) (a b : Int) : Int := match op with
 | .and => k.wrap ((BitVec.ofInt k.bits a &&& BitVec.ofInt k.bits b).toNat : Int)
 | .xor => k.wrap ((BitVec.ofInt k.bits a ^^^ BitVec.ofInt k.bits b).toNat : Int)
 | .or => k.wrap ((BitVec.ofInt k.bits a ||| BitVec.ofInt k.bits b).toNat : Int)
 | .shl => k.wrap (a * 2 ^ (min b.toNat k.bits))
 | .shr => a.fdiv (2 ^ (min b.toNat k.bits))
 | _ => 0
def imax (a b : Int) : Int := if b > a then b else a
def imin (a b : Int) : Int := if b < a then b else a
end Go.PL

namespace Go.PL
abbrev D0 : Type := List (ByteArray × Int × Int) × List (Int × List Int)
abbrev Q0 : Type := Int × List (Int × List Int) × List Int
abbrev C0 : Type := Int × Int × Int × Int × Int × Int × Int
abbrev R0 : Type := List (ByteArray × Int × Int)
abbrev A0 : Type := List (Int × List Int)
abbrev L0 : Type := List (List Int)
abbrev I0 : Type := List Int
abbrev E0 : Type := List (Int × Int)
variable (N : Nat)
def slices_Clone_Lint_int (N : Nat) (s : I0) : Option I0 := grd (decide (s.length * 8 <= 140737488355328)) (some s)
def slices_Grow_Lint_int (N : Nat) (s : I0) (n : Int) : Option I0 := grd (decide (0 <= n) && decide ((s.length + n.toNat) * 8 <= 140737488355328)) (some s)
def slices_Sort_Lint_int (N : Nat) (s : I0) : Option I0 := grd (decide (s.length < 4611686018427387904)) (some (s.mergeSort fun a b => decide (a <= b)))
def slices_Compact_Lint_int (N : Nat) (s : I0) : Option I0 := some (((List.range s.length).filter fun j => decide (j = 0 \/ s.toArray[j]! ≠ s.toArray[j - 1]!)).map fun j => s.toArray[j]!)
def slices_Repeat_Lint_int (N : Nat) (s : I0) (n : Int) : Option I0 := grd (decide (s.length = 1) && (decide (0 <= n) && decide (n * 8 <= 140737488355328))) (some (List.replicate n.toNat (at_ 0 s 0)))
def laws_szRelation (N : Nat) (a : ByteArray × Int × Int) (left_ : Int) : Option (Int) :=
 bif decide ((w64 (left_ - (a.1.size : Int))) < 0) then some (-1)
 else
 some (w64 (left_ - (a.1.size : Int)))
def laws_szRelationS_l0_b (rec_ : R0 -> Int -> Int -> Option (Int)) (a2 : R0) (left_2 : Int) (i : Int) : Option (Int) :=
 bif decide (i < (a2.length : Int)) then
  grd (inb i a2) <|
  (laws_szRelation N ((at_ (⟨#[]⟩, (0, 0)) a2 i).1, ((at_ (⟨#[]⟩, (0, 0)) a2 i).2)) left_2).bind fun r =>
  bif decide (r < 0) then some (-1)
  else
  rec_ a2 r (w64 (i + 1))
 else
 some left_2
def laws_szRelationS_l0 (N : Nat) : Nat -> R0 -> Int -> Int -> Option (Int)
 | 0, _, _, _ => none
 | k_ + 1, a2, left_2, i => laws_szRelationS_l0_b N (laws_szRelationS_l0 N k_) a2 left_2 i
def laws_szRelationS_b (N : Nat) (laws_szRelationS_l0S : R0 -> Int -> Int -> Option (Int)) (a : R0) (left_ : Int) : Option (Int) :=
 bif decide ((w64 (left_ - (a.length : Int))) < 0) then some (-1)
 else
 laws_szRelationS_l0S a (w64 (left_ - (a.length : Int))) 0
def laws_szRelationS (a : R0) (left_ : Int) : Option (Int) := laws_szRelationS_b N (laws_szRelationS_l0 N N) a left_
def laws_szIntS (N : Nat) (a : I0) (left_ : Int) : Option (Int) :=
 bif decide ((w64 (left_ - (a.length : Int))) < 0) then some (-1)
 else
 some (w64 (left_ - (a.length : Int)))
def laws_szFact (a : Int × List Int) (left_ : Int) : Option (Int) :=
 (laws_szIntS N a.2 left_).bind fun r =>
 bif decide (r < 0) then some (-1)
 else
 some r
def laws_szFactS_l0_b (rec_ : A0 -> Int -> Int -> Option (Int)) (a2 : A0) (left_2 : Int) (i : Int) : Option (Int) :=
 bif decide (i < (a2.length : Int)) then
  grd (inb i a2) <|
  (laws_szFact N (at_ (0, []) a2 i) left_2).bind fun r =>
  bif decide (r < 0) then some (-1)
  else
  rec_ a2 r (w64 (i + 1))
 else
 some left_2
def laws_szFactS_l0 (N : Nat) : Nat -> A0 -> Int -> Int -> Option (Int)
 | 0, _, _, _ => none
 | k_ + 1, a2, left_2, i => laws_szFactS_l0_b N (laws_szFactS_l0 N k_) a2 left_2 i
def laws_szFactS_b (N : Nat) (laws_szFactS_l0S : A0 -> Int -> Int -> Option (Int)) (a : A0) (left_ : Int) : Option (Int) :=
 bif decide ((w64 (left_ - (a.length : Int))) < 0) then some (-1)
 else
 laws_szFactS_l0S a (w64 (left_ - (a.length : Int))) 0
def laws_szFactS (a : A0) (left_ : Int) : Option (Int) := laws_szFactS_b N (laws_szFactS_l0 N N) a left_
def laws_szDatabase (a : D0) (left_ : Int) : Option (Int) :=
 (laws_szRelationS N a.1 left_).bind fun r =>
 bif decide (r < 0) then some (-1)
 else
 (laws_szFactS N a.2 r).bind fun r2 =>
 bif decide (r2 < 0) then some (-1)
 else
 some r2
def laws_szDenialConstraintS (N : Nat) (a : List C0) (left_ : Int) : Option (Int) :=
 bif decide ((w64 (left_ - (a.length : Int))) < 0) then some (-1)
 else
 some (w64 (left_ - (a.length : Int)))
def laws_szAtom (a : Int × List Int) (left_ : Int) : Option (Int) :=
 (laws_szIntS N a.2 left_).bind fun r =>
 bif decide (r < 0) then some (-1)
 else
 some r
def laws_szAtomS_l0_b (rec_ : A0 -> Int -> Int -> Option (Int)) (a2 : A0) (left_2 : Int) (i : Int) : Option (Int) :=
 bif decide (i < (a2.length : Int)) then
  grd (inb i a2) <|
  (laws_szAtom N (at_ (0, []) a2 i) left_2).bind fun r =>
  bif decide (r < 0) then some (-1)
  else
  rec_ a2 r (w64 (i + 1))
 else
 some left_2
def laws_szAtomS_l0 (N : Nat) : Nat -> A0 -> Int -> Int -> Option (Int)
 | 0, _, _, _ => none
 | k_ + 1, a2, left_2, i => laws_szAtomS_l0_b N (laws_szAtomS_l0 N k_) a2 left_2 i
def laws_szAtomS_b (N : Nat) (laws_szAtomS_l0S : A0 -> Int -> Int -> Option (Int)) (a : A0) (left_ : Int) : Option (Int) :=
 bif decide ((w64 (left_ - (a.length : Int))) < 0) then some (-1)
 else
 laws_szAtomS_l0S a (w64 (left_ - (a.length : Int))) 0
def laws_szAtomS (a : A0) (left_ : Int) : Option (Int) := laws_szAtomS_b N (laws_szAtomS_l0 N N) a left_
def laws_szQuery (a : Q0) (left_ : Int) : Option (Int) :=
 (laws_szAtomS N a.2.1 left_).bind fun r =>
 bif decide (r < 0) then some (-1)
 else
 (laws_szIntS N a.2.2 r).bind fun r2 =>
 bif decide (r2 < 0) then some (-1)
 else
 some r2
def laws_toRelation (N : Nat) (a : ByteArray × Int × Int) : Option (ByteArray × Int × Int) :=
 some a
def laws_toRelationS_l0_b (rec_ : R0 -> R0 -> Int -> Option R0) (a2 : R0) (out : R0) (i : Int) : Option R0 :=
 bif decide (i < (a2.length : Int)) then
  grd (inb i a2) <|
  (laws_toRelation N ((at_ (⟨#[]⟩, (0, 0)) a2 i).1, ((at_ (⟨#[]⟩, (0, 0)) a2 i).2))).bind fun r =>
  grd (inb i out) <|
  grd (inb i out) <|
  letv (out.set i.toNat r) fun u =>
  rec_ a2 u (w64 (i + 1))
 else
 some out
def laws_toRelationS_l0 (N : Nat) : Nat -> R0 -> R0 -> Int -> Option R0
 | 0, _, _, _ => none
 | k_ + 1, a2, out, i => laws_toRelationS_l0_b N (laws_toRelationS_l0 N k_) a2 out i
def laws_toRelationS_b (N : Nat) (laws_toRelationS_l0S : R0 -> R0 -> Int -> Option R0) (a : R0) : Option R0 :=
 grd (makeOk (a.length : Int) 32) <|
 laws_toRelationS_l0S a (List.replicate (a.length : Int).toNat (⟨#[]⟩, (0, 0))) 0
def laws_toRelationS (a : R0) : Option R0 := laws_toRelationS_b N (laws_toRelationS_l0 N N) a
def laws_toIntS_l0_b (N : Nat) (rec_ : I0 -> I0 -> Int -> Option I0) (a2 : I0) (out : I0) (i : Int) : Option I0 :=
 bif decide (i < (a2.length : Int)) then
  grd (inb i a2) <|
  grd (inb i out) <|
  grd (inb i out) <|
  letv (out.set i.toNat (at_ 0 a2 i)) fun u =>
  rec_ a2 u (w64 (i + 1))
 else
 some out
def laws_toIntS_l0 (N : Nat) : Nat -> I0 -> I0 -> Int -> Option I0
 | 0, _, _, _ => none
 | k_ + 1, a2, out, i => laws_toIntS_l0_b N (laws_toIntS_l0 N k_) a2 out i
def laws_toIntS_b (N : Nat) (laws_toIntS_l0S : I0 -> I0 -> Int -> Option I0) (a : I0) : Option I0 :=
 grd (makeOk (a.length : Int) 8) <|
 laws_toIntS_l0S a (List.replicate (a.length : Int).toNat 0) 0
def laws_toIntS (a : I0) : Option I0 := laws_toIntS_b N (laws_toIntS_l0 N N) a
def laws_toFact (a : Int × List Int) : Option (Int × List Int) :=
 (laws_toIntS N a.2).bind fun r =>
 some (a.1, r)
def laws_toFactS_l0_b (rec_ : A0 -> A0 -> Int -> Option A0) (a2 : A0) (out : A0) (i : Int) : Option A0 :=
 bif decide (i < (a2.length : Int)) then
  grd (inb i a2) <|
  (laws_toFact N (at_ (0, []) a2 i)).bind fun r =>
  grd (inb i out) <|
  grd (inb i out) <|
  letv (out.set i.toNat r) fun u =>
  rec_ a2 u (w64 (i + 1))
 else
 some out
def laws_toFactS_l0 (N : Nat) : Nat -> A0 -> A0 -> Int -> Option A0
 | 0, _, _, _ => none
 | k_ + 1, a2, out, i => laws_toFactS_l0_b N (laws_toFactS_l0 N k_) a2 out i
def laws_toFactS_b (N : Nat) (laws_toFactS_l0S : A0 -> A0 -> Int -> Option A0) (a : A0) : Option A0 :=
 grd (makeOk (a.length : Int) 32) <|
 laws_toFactS_l0S a (List.replicate (a.length : Int).toNat (0, [])) 0
def laws_toFactS (a : A0) : Option A0 := laws_toFactS_b N (laws_toFactS_l0 N N) a
def laws_toDatabase (a : D0) : Option D0 :=
 (laws_toRelationS N a.1).bind fun r =>
 (laws_toFactS N a.2).bind fun r2 =>
 some (r, r2)
def laws_toDenialConstraint (N : Nat) (a : C0) : Option C0 :=
 some a
def laws_toDenialConstraintS_l0_b (rec_ : (List C0) -> (List C0) -> Int -> Option (List C0)) (a2 : List C0) (out : List C0) (i : Int) : Option (List C0) :=
 bif decide (i < (a2.length : Int)) then
  grd (inb i a2) <|
  (laws_toDenialConstraint N ((at_ (0, (0, (0, (0, (0, (0, 0)))))) a2 i).1, ((at_ (0, (0, (0, (0, (0, (0, 0)))))) a2 i).2).1, (((at_ (0, (0, (0, (0, (0, (0, 0)))))) a2 i).2).2).1, ((((at_ (0, (0, (0, (0, (0, (0, 0)))))) a2 i).2).2).2).1, (((((at_ (0, (0, (0, (0, (0, (0, 0)))))) a2 i).2).2).2).2).1, ((((((at_ (0, (0, (0, (0, (0, (0, 0)))))) a2 i).2).2).2).2).2))).bind fun r =>
  grd (inb i out) <|
  grd (inb i out) <|
  letv (out.set i.toNat r) fun u =>
  rec_ a2 u (w64 (i + 1))
 else
 some out
def laws_toDenialConstraintS_l0 (N : Nat) : Nat -> (List C0) -> (List C0) -> Int -> Option (List C0)
 | 0, _, _, _ => none
 | k_ + 1, a2, out, i => laws_toDenialConstraintS_l0_b N (laws_toDenialConstraintS_l0 N k_) a2 out i
def laws_toDenialConstraintS_b (N : Nat) (laws_toDenialConstraintS_l0S : (List C0) -> (List C0) -> Int -> Option (List C0)) (a : List C0) : Option (List C0) :=
 grd (makeOk (a.length : Int) 56) <|
 laws_toDenialConstraintS_l0S a (List.replicate (a.length : Int).toNat (0, (0, (0, (0, (0, (0, 0))))))) 0
def laws_toDenialConstraintS (a : List C0) : Option (List C0) := laws_toDenialConstraintS_b N (laws_toDenialConstraintS_l0 N N) a
def laws_toAtom (a : Int × List Int) : Option (Int × List Int) :=
 (laws_toIntS N a.2).bind fun r =>
 some (a.1, r)
def laws_toAtomS_l0_b (rec_ : A0 -> A0 -> Int -> Option A0) (a2 : A0) (out : A0) (i : Int) : Option A0 :=
 bif decide (i < (a2.length : Int)) then
  grd (inb i a2) <|
  (laws_toAtom N (at_ (0, []) a2 i)).bind fun r =>
  grd (inb i out) <|
  grd (inb i out) <|
  letv (out.set i.toNat r) fun u =>
  rec_ a2 u (w64 (i + 1))
 else
 some out
def laws_toAtomS_l0 (N : Nat) : Nat -> A0 -> A0 -> Int -> Option A0
 | 0, _, _, _ => none
 | k_ + 1, a2, out, i => laws_toAtomS_l0_b N (laws_toAtomS_l0 N k_) a2 out i
def laws_toAtomS_b (N : Nat) (laws_toAtomS_l0S : A0 -> A0 -> Int -> Option A0) (a : A0) : Option A0 :=
 grd (makeOk (a.length : Int) 32) <|
 laws_toAtomS_l0S a (List.replicate (a.length : Int).toNat (0, [])) 0
def laws_toAtomS (a : A0) : Option A0 := laws_toAtomS_b N (laws_toAtomS_l0 N N) a
def laws_toQuery (a : Q0) : Option Q0 :=
 (laws_toAtomS N a.2.1).bind fun r =>
 (laws_toIntS N a.2.2).bind fun r2 =>
 some (a.1, r, r2)
def spec_l1In (N : Nat) (x : Int) (low : Int) (high : Int) : Option (Bool) :=
 bif decide (x >= low) then some (decide (x <= high))
 else
 some false
def spec_IsValidRelation (s : ByteArray × Int × Int) : Option (Bool) :=
 bif ((s.1.size : Int) == 1) then
  (byteAt s.1 0).bind fun b =>
  bif decide ((b.toNat : Int) >= 97) then
   (byteAt s.1 0).bind fun b2 =>
   bif decide ((b2.toNat : Int) <= 122) then
    (spec_l1In N s.2.1 1 3).bind fun r =>
    bif r then
     (spec_l1In N s.2.2 0 s.2.1).bind fun r2 =>
     some r2
    else
    some false
   else
   some false
  else
  some false
 else
 some false
def spec_AreValidRelations_l0_b (rec_ : R0 -> Int -> Option (Bool)) (l2 : R0) (i : Int) : Option (Bool) :=
 bif decide (i < (l2.length : Int)) then
  grd (inb i l2) <|
  (spec_IsValidRelation N ((at_ (⟨#[]⟩, (0, 0)) l2 i).1, ((at_ (⟨#[]⟩, (0, 0)) l2 i).2))).bind fun r =>
  bif (!r) then some false
  else
  bif decide (i > 0) then
   grd (inb (w64 (i - 1)) l2) <|
   grd (inb i l2) <|
   bif (!slt ((at_ (⟨#[]⟩, (0, 0)) l2 (w64 (i - 1))).1) ((at_ (⟨#[]⟩, (0, 0)) l2 i).1)) then some false
   else
   rec_ l2 (w64 (i + 1))
  else
  rec_ l2 (w64 (i + 1))
 else
 some (decide ((l2.length : Int) <= 4))
def spec_AreValidRelations_l0 (N : Nat) : Nat -> R0 -> Int -> Option (Bool)
 | 0, _, _ => none
 | k_ + 1, l2, i => spec_AreValidRelations_l0_b N (spec_AreValidRelations_l0 N k_) l2 i
def spec_AreValidRelations_b (N : Nat) (spec_AreValidRelations_l0S : R0 -> Int -> Option (Bool)) (l : R0) : Option (Bool) :=
 spec_AreValidRelations_l0S l 0
def spec_AreValidRelations (l : R0) : Option (Bool) := spec_AreValidRelations_b N (spec_AreValidRelations_l0 N N) l
def spec_IsValidFact_l0_b (rec_ : Int -> I0 -> Int -> Option (Bool)) (f2 : Int) (f3 : I0) (i : Int) : Option (Bool) :=
 bif decide (i < (f3.length : Int)) then
  grd (inb i f3) <|
  (spec_l1In N (at_ 0 f3 i) 0 9).bind fun r3 =>
  bif (!r3) then some false
  else
  rec_ f2 f3 (w64 (i + 1))
 else
 some true
def spec_IsValidFact_l0 (N : Nat) : Nat -> Int -> I0 -> Int -> Option (Bool)
 | 0, _, _, _ => none
 | k_ + 1, f2, f3, i => spec_IsValidFact_l0_b N (spec_IsValidFact_l0 N k_) f2 f3 i
def spec_IsValidFact_b (spec_IsValidFact_l0S : Int -> I0 -> Int -> Option (Bool)) (l : R0) (f : Int × List Int) : Option (Bool) :=
 (spec_AreValidRelations N l).bind fun r =>
 bif (!r) then some false
 else
 (spec_l1In N f.1 0 (w64 ((l.length : Int) - 1))).bind fun r2 =>
 bif (!r2) then some false
 else
 grd (inb f.1 l) <|
 bif ((f.2.length : Int) != (((at_ (⟨#[]⟩, (0, 0)) l f.1).2).1)) then some false
 else
 spec_IsValidFact_l0S f.1 f.2 0
def spec_IsValidFact (l : R0) (f : Int × List Int) : Option (Bool) := spec_IsValidFact_b N (spec_IsValidFact_l0 N N) l f
def spec_l3Ints_l0_b (N : Nat) (rec_ : I0 -> I0 -> Int -> Option (Int)) (a2 : I0) (b2 : I0) (i : Int) : Option (Int) :=
 bif decide (i < (a2.length : Int)) then
  bif decide (i < (b2.length : Int)) then
   grd (inb i a2) <|
   grd (inb i b2) <|
   bif decide ((at_ 0 a2 i) < (at_ 0 b2 i)) then some (-1)
   else
   grd (inb i a2) <|
   grd (inb i b2) <|
   bif decide ((at_ 0 a2 i) > (at_ 0 b2 i)) then some 1
   else
   rec_ a2 b2 (w64 (i + 1))
  else
  bif decide ((a2.length : Int) < (b2.length : Int)) then some (-1)
  else
  bif decide ((a2.length : Int) > (b2.length : Int)) then some 1
  else
  some 0
 else
 bif decide ((a2.length : Int) < (b2.length : Int)) then some (-1)
 else
 bif decide ((a2.length : Int) > (b2.length : Int)) then some 1
 else
 some 0
def spec_l3Ints_l0 (N : Nat) : Nat -> I0 -> I0 -> Int -> Option (Int)
 | 0, _, _, _ => none
 | k_ + 1, a2, b2, i => spec_l3Ints_l0_b N (spec_l3Ints_l0 N k_) a2 b2 i
def spec_l3Ints_b (N : Nat) (spec_l3Ints_l0S : I0 -> I0 -> Int -> Option (Int)) (a : I0) (b : I0) : Option (Int) :=
 spec_l3Ints_l0S a b 0
def spec_l3Ints (a : I0) (b : I0) : Option (Int) := spec_l3Ints_b N (spec_l3Ints_l0 N N) a b
def spec_CompareFacts (a : Int × List Int) (b : Int × List Int) : Option (Int) :=
 bif decide (a.1 < b.1) then some (-1)
 else
 bif decide (a.1 > b.1) then some 1
 else
 (spec_l3Ints N a.2 b.2).bind fun r =>
 some r
def spec_IsValidDatabase_l0_b (rec_ : R0 -> A0 -> Int -> Option (Bool)) (d2 : R0) (d3 : A0) (i : Int) : Option (Bool) :=
 bif decide (i < (d3.length : Int)) then
  grd (inb i d3) <|
  (spec_IsValidFact N d2 (at_ (0, []) d3 i)).bind fun r =>
  bif (!r) then some false
  else
  bif decide (i > 0) then
   grd (inb (w64 (i - 1)) d3) <|
   grd (inb i d3) <|
   (spec_CompareFacts N (at_ (0, []) d3 (w64 (i - 1))) (at_ (0, []) d3 i)).bind fun r2 =>
   bif decide (r2 >= 0) then some false
   else
   rec_ d2 d3 (w64 (i + 1))
  else
  rec_ d2 d3 (w64 (i + 1))
 else
 (spec_AreValidRelations N d2).bind fun r3 =>
 bif r3 then some (decide ((d3.length : Int) <= 14))
 else
 some false
def spec_IsValidDatabase_l0 (N : Nat) : Nat -> R0 -> A0 -> Int -> Option (Bool)
 | 0, _, _, _ => none
 | k_ + 1, d2, d3, i => spec_IsValidDatabase_l0_b N (spec_IsValidDatabase_l0 N k_) d2 d3 i
def spec_IsValidDatabase_b (N : Nat) (spec_IsValidDatabase_l0S : R0 -> A0 -> Int -> Option (Bool)) (d : D0) : Option (Bool) :=
 spec_IsValidDatabase_l0S d.1 d.2 0
def spec_IsValidDatabase (d : D0) : Option (Bool) := spec_IsValidDatabase_b N (spec_IsValidDatabase_l0 N N) d
def spec_KeyOf (l : R0) (f : Int × List Int) : Option I0 :=
 (spec_IsValidFact N l f).bind fun r =>
 bif (!r) then some []
 else
 grd (inb f.1 l) <|
 grd (subOk 0 (((at_ (⟨#[]⟩, (0, 0)) l f.1).2).2) f.2.length) <|
 grd (appOk [] (f.2.take (((at_ (⟨#[]⟩, (0, 0)) l f.1).2).2).toNat) 8) <|
 some (f.2.take (((at_ (⟨#[]⟩, (0, 0)) l f.1).2).2).toNat)
def spec_HaveSameKey (l : R0) (a : Int × List Int) (b : Int × List Int) : Option (Bool) :=
 (spec_IsValidFact N l a).bind fun r =>
 bif r then
  (spec_IsValidFact N l b).bind fun r2 =>
  bif r2 then
   bif (a.1 == b.1) then
    (spec_KeyOf N l a).bind fun r3 =>
    (spec_KeyOf N l b).bind fun r4 =>
    (spec_l3Ints N r3 r4).bind fun r5 =>
    some (r5 == 0)
   else
   some false
  else
  some false
 else
 some false
def spec_IsValidConstraint (d : D0) (x : C0) : Option (Bool) :=
 (spec_IsValidDatabase N d).bind fun r =>
 bif (!r) then some false
 else
 (spec_l1In N x.1 0 (w64 ((d.1.length : Int) - 1))).bind fun r2 =>
 bif (!r2) then some false
 else
 (spec_l1In N x.2.1 0 (w64 ((d.1.length : Int) - 1))).bind fun r3 =>
 bif (!r3) then some false
 else
 grd (inb x.1 d.1) <|
 grd (inb x.2.1 d.1) <|
 (spec_l1In N x.2.2.1 0 (w64 ((((at_ (⟨#[]⟩, (0, 0)) d.1 x.1).2).1) - 1))).bind fun r4 =>
 bif r4 then
  (spec_l1In N x.2.2.2.2.1 0 (w64 ((((at_ (⟨#[]⟩, (0, 0)) d.1 x.1).2).1) - 1))).bind fun r5 =>
  bif r5 then
   (spec_l1In N x.2.2.2.1 0 (w64 ((((at_ (⟨#[]⟩, (0, 0)) d.1 x.2.1).2).1) - 1))).bind fun r6 =>
   bif r6 then
    (spec_l1In N x.2.2.2.2.2.1 0 (w64 ((((at_ (⟨#[]⟩, (0, 0)) d.1 x.2.1).2).1) - 1))).bind fun r7 =>
    bif r7 then
     (spec_l1In N x.2.2.2.2.2.2 1 2).bind fun r8 =>
     some r8
    else
    some false
   else
   some false
  else
  some false
 else
 some false
def spec_ViolatesConstraint (d : D0) (x : C0) (i : Int) (k : Int) : Option (Bool) :=
 (spec_IsValidConstraint N d x).bind fun r =>
 bif (!r) then some false
 else
 (spec_l1In N i 0 (w64 ((d.2.length : Int) - 1))).bind fun r2 =>
 bif (!r2) then some false
 else
 (spec_l1In N k 0 (w64 ((d.2.length : Int) - 1))).bind fun r3 =>
 bif (!r3) then some false
 else
 bif (i == k) then some false
 else
 grd (inb i d.2) <|
 grd (inb k d.2) <|
 bif (((at_ (0, []) d.2 i).1) != x.1) then some false
 else
 bif (((at_ (0, []) d.2 k).1) != x.2.1) then some false
 else
 grd (inb x.2.2.1 ((at_ (0, []) d.2 i).2)) <|
 grd (inb x.2.2.2.1 ((at_ (0, []) d.2 k).2)) <|
 bif ((at_ 0 ((at_ (0, []) d.2 i).2) x.2.2.1) != (at_ 0 ((at_ (0, []) d.2 k).2) x.2.2.2.1)) then some false
 else
 bif (x.2.2.2.2.2.2 == 1) then
  grd (inb x.2.2.2.2.1 ((at_ (0, []) d.2 i).2)) <|
  grd (inb x.2.2.2.2.2.1 ((at_ (0, []) d.2 k).2)) <|
  some ((at_ 0 ((at_ (0, []) d.2 i).2) x.2.2.2.2.1) == (at_ 0 ((at_ (0, []) d.2 k).2) x.2.2.2.2.2.1))
 else
 grd (inb x.2.2.2.2.1 ((at_ (0, []) d.2 i).2)) <|
 grd (inb x.2.2.2.2.2.1 ((at_ (0, []) d.2 k).2)) <|
 some (decide ((at_ 0 ((at_ (0, []) d.2 i).2) x.2.2.2.2.1) < (at_ 0 ((at_ (0, []) d.2 k).2) x.2.2.2.2.2.1)))
def spec_ConflictEdges_l2_b (spec_ConflictEdges_l1R : (List C0) -> R0 -> A0 -> E0 -> Int -> Int -> Option E0) (rec_ : (List C0) -> R0 -> A0 -> E0 -> Int -> Int -> Bool -> Int -> Option E0) (l4 : List C0) (d6 : R0) (d7 : A0) (out3 : E0) (i3 : Int) (k2 : Int) (is_ : Bool) (n : Int) : Option E0 :=
 bif decide (n < (l4.length : Int)) then
  bif is_ then rec_ l4 d6 d7 out3 i3 k2 true (w64 (n + 1))
  else
  grd (inb n l4) <|
  (spec_ViolatesConstraint N (d6, d7) ((at_ (0, (0, (0, (0, (0, (0, 0)))))) l4 n).1, ((at_ (0, (0, (0, (0, (0, (0, 0)))))) l4 n).2).1, (((at_ (0, (0, (0, (0, (0, (0, 0)))))) l4 n).2).2).1, ((((at_ (0, (0, (0, (0, (0, (0, 0)))))) l4 n).2).2).2).1, (((((at_ (0, (0, (0, (0, (0, (0, 0)))))) l4 n).2).2).2).2).1, ((((((at_ (0, (0, (0, (0, (0, (0, 0)))))) l4 n).2).2).2).2).2)) i3 k2).bind fun r3 =>
  bif r3 then rec_ l4 d6 d7 out3 i3 k2 true (w64 (n + 1))
  else
  grd (inb n l4) <|
  (spec_ViolatesConstraint N (d6, d7) ((at_ (0, (0, (0, (0, (0, (0, 0)))))) l4 n).1, ((at_ (0, (0, (0, (0, (0, (0, 0)))))) l4 n).2).1, (((at_ (0, (0, (0, (0, (0, (0, 0)))))) l4 n).2).2).1, ((((at_ (0, (0, (0, (0, (0, (0, 0)))))) l4 n).2).2).2).1, (((((at_ (0, (0, (0, (0, (0, (0, 0)))))) l4 n).2).2).2).2).1, ((((((at_ (0, (0, (0, (0, (0, (0, 0)))))) l4 n).2).2).2).2).2)) k2 i3).bind fun r4 =>
  rec_ l4 d6 d7 out3 i3 k2 r4 (w64 (n + 1))
 else
 bif is_ then
  grd (appOk out3 [(i3, k2)] 16) <|
  spec_ConflictEdges_l1R l4 d6 d7 (out3 ++ [(i3, k2)]) i3 (w64 (k2 + 1))
 else
 spec_ConflictEdges_l1R l4 d6 d7 out3 i3 (w64 (k2 + 1))
def spec_ConflictEdges_l2 (spec_ConflictEdges_l1R : (List C0) -> R0 -> A0 -> E0 -> Int -> Int -> Option E0) (N : Nat) : Nat -> (List C0) -> R0 -> A0 -> E0 -> Int -> Int -> Bool -> Int -> Option E0
 | 0, _, _, _, _, _, _, _, _ => none
 | k_ + 1, l4, d6, d7, out3, i3, k2, is_, n => spec_ConflictEdges_l2_b N spec_ConflictEdges_l1R (spec_ConflictEdges_l2 spec_ConflictEdges_l1R N k_) l4 d6 d7 out3 i3 k2 is_ n
def spec_ConflictEdges_l1_b (spec_ConflictEdges_l0R : (List C0) -> R0 -> A0 -> E0 -> Int -> Option E0) (spec_ConflictEdges_l2S : (List C0) -> R0 -> A0 -> E0 -> Int -> Int -> Bool -> Int -> Option E0) (rec_ : (List C0) -> R0 -> A0 -> E0 -> Int -> Int -> Option E0) (l3 : List C0) (d4 : R0) (d5 : A0) (out2 : E0) (i2 : Int) (k : Int) : Option E0 :=
 bif decide (k < (d5.length : Int)) then
  grd (inb i2 d5) <|
  grd (inb k d5) <|
  (spec_HaveSameKey N d4 (at_ (0, []) d5 i2) (at_ (0, []) d5 k)).bind fun r2 =>
  spec_ConflictEdges_l2S l3 d4 d5 out2 i2 k r2 0
 else
 spec_ConflictEdges_l0R l3 d4 d5 out2 (w64 (i2 + 1))
def spec_ConflictEdges_l1 (spec_ConflictEdges_l0R : (List C0) -> R0 -> A0 -> E0 -> Int -> Option E0) (N : Nat) : Nat -> (List C0) -> R0 -> A0 -> E0 -> Int -> Int -> Option E0
 | 0, _, _, _, _, _, _ => none
 | k_ + 1, l3, d4, d5, out2, i2, k => spec_ConflictEdges_l1_b N spec_ConflictEdges_l0R (spec_ConflictEdges_l2 (spec_ConflictEdges_l1 spec_ConflictEdges_l0R N k_) N N) (spec_ConflictEdges_l1 spec_ConflictEdges_l0R N k_) l3 d4 d5 out2 i2 k
def spec_ConflictEdges_l0_b (spec_ConflictEdges_l1S : (List C0) -> R0 -> A0 -> E0 -> Int -> Int -> Option E0) (rec_ : (List C0) -> R0 -> A0 -> E0 -> Int -> Option E0) (l2 : List C0) (d2 : R0) (d3 : A0) (out : E0) (i : Int) : Option E0 :=
 bif decide (i < (d3.length : Int)) then
  (spec_IsValidDatabase N (d2, d3)).bind fun r =>
  bif r then spec_ConflictEdges_l1S l2 d2 d3 out i (w64 (i + 1))
  else
  some out
 else
 some out
def spec_ConflictEdges_l0 (N : Nat) : Nat -> (List C0) -> R0 -> A0 -> E0 -> Int -> Option E0
 | 0, _, _, _, _, _ => none
 | k_ + 1, l2, d2, d3, out, i => spec_ConflictEdges_l0_b N (spec_ConflictEdges_l1 (spec_ConflictEdges_l0 N k_) N N) (spec_ConflictEdges_l0 N k_) l2 d2 d3 out i
def spec_ConflictEdges_b (N : Nat) (spec_ConflictEdges_l0S : (List C0) -> R0 -> A0 -> E0 -> Int -> Option E0) (d : D0) (l : List C0) : Option E0 :=
 spec_ConflictEdges_l0S l d.1 d.2 [] 0
def spec_ConflictEdges (d : D0) (l : List C0) : Option E0 := spec_ConflictEdges_b N (spec_ConflictEdges_l0 N N) d l
def spec_AreValidEdges_l0_b (rec_ : Int -> E0 -> Int -> Option (Bool)) (n2 : Int) (l2 : E0) (i : Int) : Option (Bool) :=
 bif decide (i < (l2.length : Int)) then
  grd (inb i l2) <|
  grd (inb i l2) <|
  (spec_l1In N ((at_ (0, 0) l2 i).1) 0 (w64 (((at_ (0, 0) l2 i).2) - 1))).bind fun r =>
  bif (!r) then some false
  else
  grd (inb i l2) <|
  (spec_l1In N ((at_ (0, 0) l2 i).2) 0 (w64 (n2 - 1))).bind fun r2 =>
  bif (!r2) then some false
  else
  bif decide (i > 0) then
   grd (inb i l2) <|
   grd (inb (w64 (i - 1)) l2) <|
   bif decide (((at_ (0, 0) l2 i).1) < ((at_ (0, 0) l2 (w64 (i - 1))).1)) then some false
   else
   grd (inb i l2) <|
   grd (inb (w64 (i - 1)) l2) <|
   bif (((at_ (0, 0) l2 i).1) == ((at_ (0, 0) l2 (w64 (i - 1))).1)) then
    grd (inb i l2) <|
    grd (inb (w64 (i - 1)) l2) <|
    bif decide (((at_ (0, 0) l2 i).2) <= ((at_ (0, 0) l2 (w64 (i - 1))).2)) then some false
    else
    rec_ n2 l2 (w64 (i + 1))
   else
   rec_ n2 l2 (w64 (i + 1))
  else
  rec_ n2 l2 (w64 (i + 1))
 else
 (spec_l1In N n2 0 14).bind fun r3 =>
 some r3
def spec_AreValidEdges_l0 (N : Nat) : Nat -> Int -> E0 -> Int -> Option (Bool)
 | 0, _, _, _ => none
 | k_ + 1, n2, l2, i => spec_AreValidEdges_l0_b N (spec_AreValidEdges_l0 N k_) n2 l2 i
def spec_AreValidEdges_b (N : Nat) (spec_AreValidEdges_l0S : Int -> E0 -> Int -> Option (Bool)) (n : Int) (l : E0) : Option (Bool) :=
 spec_AreValidEdges_l0S n l 0
def spec_AreValidEdges (n : Int) (l : E0) : Option (Bool) := spec_AreValidEdges_b N (spec_AreValidEdges_l0 N N) n l
def spec_l8Set_l0_b (rec_ : Int -> I0 -> Int -> Option (Bool)) (n2 : Int) (s2 : I0) (i : Int) : Option (Bool) :=
 bif decide (i < (s2.length : Int)) then
  grd (inb i s2) <|
  (spec_l1In N (at_ 0 s2 i) 0 (w64 (n2 - 1))).bind fun r =>
  bif (!r) then some false
  else
  bif decide (i > 0) then
   grd (inb i s2) <|
   grd (inb (w64 (i - 1)) s2) <|
   bif decide ((at_ 0 s2 i) <= (at_ 0 s2 (w64 (i - 1)))) then some false
   else
   rec_ n2 s2 (w64 (i + 1))
  else
  rec_ n2 s2 (w64 (i + 1))
 else
 some true
def spec_l8Set_l0 (N : Nat) : Nat -> Int -> I0 -> Int -> Option (Bool)
 | 0, _, _, _ => none
 | k_ + 1, n2, s2, i => spec_l8Set_l0_b N (spec_l8Set_l0 N k_) n2 s2 i
def spec_l8Set_b (N : Nat) (spec_l8Set_l0S : Int -> I0 -> Int -> Option (Bool)) (n : Int) (s : I0) : Option (Bool) :=
 spec_l8Set_l0S n s 0
def spec_l8Set (n : Int) (s : I0) : Option (Bool) := spec_l8Set_b N (spec_l8Set_l0 N N) n s
def spec_l7Has_l0_b (N : Nat) (rec_ : I0 -> Int -> Int -> Option (Bool)) (l2 : I0) (x2 : Int) (i : Int) : Option (Bool) :=
 bif decide (i < (l2.length : Int)) then
  grd (inb i l2) <|
  bif ((at_ 0 l2 i) == x2) then some true
  else
  rec_ l2 x2 (w64 (i + 1))
 else
 some false
def spec_l7Has_l0 (N : Nat) : Nat -> I0 -> Int -> Int -> Option (Bool)
 | 0, _, _, _ => none
 | k_ + 1, l2, x2, i => spec_l7Has_l0_b N (spec_l7Has_l0 N k_) l2 x2 i
def spec_l7Has_b (N : Nat) (spec_l7Has_l0S : I0 -> Int -> Int -> Option (Bool)) (l : I0) (x : Int) : Option (Bool) :=
 spec_l7Has_l0S l x 0
def spec_l7Has (l : I0) (x : Int) : Option (Bool) := spec_l7Has_b N (spec_l7Has_l0 N N) l x
def spec_IsIndependent_l0_b (rec_ : E0 -> I0 -> Int -> Option (Bool)) (l2 : E0) (s2 : I0) (i : Int) : Option (Bool) :=
 bif decide (i < (l2.length : Int)) then
  grd (inb i l2) <|
  (spec_l7Has N s2 ((at_ (0, 0) l2 i).1)).bind fun r =>
  bif r then
   grd (inb i l2) <|
   (spec_l7Has N s2 ((at_ (0, 0) l2 i).2)).bind fun r2 =>
   bif r2 then some false
   else
   rec_ l2 s2 (w64 (i + 1))
  else
  rec_ l2 s2 (w64 (i + 1))
 else
 some true
def spec_IsIndependent_l0 (N : Nat) : Nat -> E0 -> I0 -> Int -> Option (Bool)
 | 0, _, _, _ => none
 | k_ + 1, l2, s2, i => spec_IsIndependent_l0_b N (spec_IsIndependent_l0 N k_) l2 s2 i
def spec_IsIndependent_b (N : Nat) (spec_IsIndependent_l0S : E0 -> I0 -> Int -> Option (Bool)) (l : E0) (s : I0) : Option (Bool) :=
 spec_IsIndependent_l0S l s 0
def spec_IsIndependent (l : E0) (s : I0) : Option (Bool) := spec_IsIndependent_b N (spec_IsIndependent_l0 N N) l s
def spec_l8Fits (l : E0) (s : I0) (x : Int) : Option (Bool) :=
 (spec_l7Has N s x).bind fun r =>
 bif (!r) then
  grd (appOk [] s 8) <|
  grd (appOk s [x] 8) <|
  (spec_IsIndependent N l (s ++ [x])).bind fun r2 =>
  some r2
 else
 some false
def spec_IsMaximalIndependent_l0_b (rec_ : Int -> E0 -> I0 -> Int -> Option (Bool)) (n2 : Int) (l2 : E0) (s2 : I0) (x : Int) : Option (Bool) :=
 bif decide (x < n2) then
  (spec_l8Fits N l2 s2 x).bind fun r4 =>
  bif r4 then some false
  else
  rec_ n2 l2 s2 (w64 (x + 1))
 else
 some true
def spec_IsMaximalIndependent_l0 (N : Nat) : Nat -> Int -> E0 -> I0 -> Int -> Option (Bool)
 | 0, _, _, _, _ => none
 | k_ + 1, n2, l2, s2, x => spec_IsMaximalIndependent_l0_b N (spec_IsMaximalIndependent_l0 N k_) n2 l2 s2 x
def spec_IsMaximalIndependent_b (spec_IsMaximalIndependent_l0S : Int -> E0 -> I0 -> Int -> Option (Bool)) (n : Int) (l : E0) (s : I0) : Option (Bool) :=
 (spec_AreValidEdges N n l).bind fun r =>
 bif (!r) then some false
 else
 (spec_l8Set N n s).bind fun r2 =>
 bif (!r2) then some false
 else
 (spec_IsIndependent N l s).bind fun r3 =>
 bif (!r3) then some false
 else
 spec_IsMaximalIndependent_l0S n l s 0
def spec_IsMaximalIndependent (n : Int) (l : E0) (s : I0) : Option (Bool) := spec_IsMaximalIndependent_b N (spec_IsMaximalIndependent_l0 N N) n l s
def spec_l8Walk_l0_b (N : Nat) (Rf : Int -> E0 -> I0 -> Int -> Option L0) (rec_ : Int -> E0 -> I0 -> Int -> L0 -> Bool -> Int -> Option L0) (n2 : Int) (l2 : E0) (s2 : I0) (x2 : Int) (out : L0) (met : Bool) (i : Int) : Option L0 :=
 bif decide (i < (l2.length : Int)) then
  bif met then rec_ n2 l2 s2 x2 out true (w64 (i + 1))
  else
  grd (inb i l2) <|
  bif (((at_ (0, 0) l2 i).1) == x2) then rec_ n2 l2 s2 x2 out true (w64 (i + 1))
  else
  grd (inb i l2) <|
  rec_ n2 l2 s2 x2 out (((at_ (0, 0) l2 i).2) == x2) (w64 (i + 1))
 else
 bif met then
  (Rf n2 l2 s2 (w64 (x2 + 1))).bind fun r4 =>
  grd (appOk out r4 24) <|
  some (out ++ r4)
 else
 some out
def spec_l8Walk_l0 (N : Nat) (Rf : Int -> E0 -> I0 -> Int -> Option L0) : Nat -> Int -> E0 -> I0 -> Int -> L0 -> Bool -> Int -> Option L0
 | 0, _, _, _, _, _, _, _ => none
 | k_ + 1, n2, l2, s2, x2, out, met, i => spec_l8Walk_l0_b N Rf (spec_l8Walk_l0 N Rf k_) n2 l2 s2 x2 out met i
def spec_l8Walk_b (Rf : Int -> E0 -> I0 -> Int -> Option L0) (spec_l8Walk_l0S : Int -> E0 -> I0 -> Int -> L0 -> Bool -> Int -> Option L0) (n : Int) (l : E0) (s : I0) (x : Int) : Option L0 :=
 bif (x == n) then
  (spec_IsMaximalIndependent N n l s).bind fun r =>
  bif r then
   grd (appOk [] s 8) <|
   some [s]
  else
  some []
 else
 (spec_l8Fits N l s x).bind fun r2 =>
 bif r2 then
  grd (appOk [] s 8) <|
  grd (appOk s [x] 8) <|
  (Rf n l (s ++ [x]) (w64 (x + 1))).bind fun r3 =>
  spec_l8Walk_l0S n l s x r3 false 0
 else
 spec_l8Walk_l0S n l s x [] false 0
def spec_l8Walk_r (N : Nat) : Nat -> Int -> E0 -> I0 -> Int -> Option L0
 | 0, _, _, _, _ => none
 | k_ + 1, n, l, s, x => spec_l8Walk_b N (spec_l8Walk_r N k_) (spec_l8Walk_l0 N (spec_l8Walk_r N k_) N) n l s x
def spec_l8Walk (n : Int) (l : E0) (s : I0) (x : Int) : Option L0 := spec_l8Walk_r N N n l s x
def spec_MaximalIndependentSets (n : Int) (l : E0) : Option L0 :=
 (spec_AreValidEdges N n l).bind fun r =>
 bif (!r) then some []
 else
 (spec_l8Walk N n l [] 0).bind fun r2 =>
 some r2
def spec_SubsetRepairs (d : D0) (l : List C0) : Option L0 :=
 (spec_IsValidDatabase N d).bind fun r =>
 bif (!r) then some []
 else
 (spec_ConflictEdges N d l).bind fun r2 =>
 (spec_MaximalIndependentSets N (d.2.length : Int) r2).bind fun r3 =>
 some r3
def spec_IsValidQuery_l2_b (spec_IsValidQuery_l0R : R0 -> Int -> A0 -> I0 -> (List Bool) -> Int -> Option (Bool)) (rec_ : R0 -> Int -> A0 -> I0 -> (List Bool) -> Int -> Int -> I0 -> Int -> Option (Bool)) (l4 : R0) (q8 : Int) (q9 : A0) (q10 : I0) (met3 : List Bool) (i3 : Int) (a3 : Int) (a4 : I0) (k2 : Int) : Option (Bool) :=
 bif decide (k2 < (a4.length : Int)) then
  grd (inb k2 a4) <|
  (spec_l1In N (at_ 0 a4 k2) (-10) (w64 (q8 - 1))).bind fun r5 =>
  bif (!r5) then some false
  else
  grd (inb k2 a4) <|
  bif decide ((at_ 0 a4 k2) >= 0) then
   grd (inb k2 a4) <|
   grd (inb (at_ 0 a4 k2) met3) <|
   grd (inb (at_ 0 a4 k2) met3) <|
   letv (met3.set (at_ 0 a4 k2).toNat true) fun u =>
   rec_ l4 q8 q9 q10 u i3 a3 a4 (w64 (k2 + 1))
  else
  rec_ l4 q8 q9 q10 met3 i3 a3 a4 (w64 (k2 + 1))
 else
 spec_IsValidQuery_l0R l4 q8 q9 q10 met3 (w64 (i3 + 1))
def spec_IsValidQuery_l2 (spec_IsValidQuery_l0R : R0 -> Int -> A0 -> I0 -> (List Bool) -> Int -> Option (Bool)) (N : Nat) : Nat -> R0 -> Int -> A0 -> I0 -> (List Bool) -> Int -> Int -> I0 -> Int -> Option (Bool)
 | 0, _, _, _, _, _, _, _, _, _ => none
 | k_ + 1, l4, q8, q9, q10, met3, i3, a3, a4, k2 => spec_IsValidQuery_l2_b N spec_IsValidQuery_l0R (spec_IsValidQuery_l2 spec_IsValidQuery_l0R N k_) l4 q8 q9 q10 met3 i3 a3 a4 k2
def spec_IsValidQuery_l1_b (N : Nat) (spec_IsValidQuery_l0R : R0 -> Int -> A0 -> I0 -> (List Bool) -> Int -> Option (Bool)) (spec_IsValidQuery_l2S : R0 -> Int -> A0 -> I0 -> (List Bool) -> Int -> Int -> I0 -> Int -> Option (Bool)) (rec_ : R0 -> Int -> A0 -> I0 -> (List Bool) -> Int -> Int -> I0 -> Int -> Option (Bool)) (l3 : R0) (q5 : Int) (q6 : A0) (q7 : I0) (met2 : List Bool) (i2 : Int) (a : Int) (a2 : I0) (k : Int) : Option (Bool) :=
 bif decide (k < i2) then
  grd (inb k q6) <|
  bif (((at_ (0, []) q6 k).1) == a) then some false
  else
  rec_ l3 q5 q6 q7 met2 i2 a a2 (w64 (k + 1))
 else
 spec_IsValidQuery_l2S l3 q5 q6 q7 met2 i2 a a2 0
def spec_IsValidQuery_l1 (spec_IsValidQuery_l0R : R0 -> Int -> A0 -> I0 -> (List Bool) -> Int -> Option (Bool)) (N : Nat) : Nat -> R0 -> Int -> A0 -> I0 -> (List Bool) -> Int -> Int -> I0 -> Int -> Option (Bool)
 | 0, _, _, _, _, _, _, _, _, _ => none
 | k_ + 1, l3, q5, q6, q7, met2, i2, a, a2, k => spec_IsValidQuery_l1_b N spec_IsValidQuery_l0R (spec_IsValidQuery_l2 spec_IsValidQuery_l0R N N) (spec_IsValidQuery_l1 spec_IsValidQuery_l0R N k_) l3 q5 q6 q7 met2 i2 a a2 k
def spec_IsValidQuery_l4_b (rec_ : Int -> A0 -> I0 -> Int -> Option (Bool)) (q14 : Int) (q15 : A0) (q16 : I0) (i4 : Int) : Option (Bool) :=
 bif decide (i4 < (q16.length : Int)) then
  grd (inb i4 q16) <|
  (spec_l1In N (at_ 0 q16 i4) 0 (w64 (q14 - 1))).bind fun r6 =>
  bif (!r6) then some false
  else
  bif decide (i4 > 0) then
   grd (inb i4 q16) <|
   grd (inb (w64 (i4 - 1)) q16) <|
   bif decide ((at_ 0 q16 i4) <= (at_ 0 q16 (w64 (i4 - 1)))) then some false
   else
   rec_ q14 q15 q16 (w64 (i4 + 1))
  else
  rec_ q14 q15 q16 (w64 (i4 + 1))
 else
 some true
def spec_IsValidQuery_l4 (N : Nat) : Nat -> Int -> A0 -> I0 -> Int -> Option (Bool)
 | 0, _, _, _, _ => none
 | k_ + 1, q14, q15, q16, i4 => spec_IsValidQuery_l4_b N (spec_IsValidQuery_l4 N k_) q14 q15 q16 i4
def spec_IsValidQuery_l3_b (N : Nat) (spec_IsValidQuery_l4S : Int -> A0 -> I0 -> Int -> Option (Bool)) (rec_ : Int -> A0 -> I0 -> (List Bool) -> Int -> Option (Bool)) (q11 : Int) (q12 : A0) (q13 : I0) (met4 : List Bool) (v : Int) : Option (Bool) :=
 bif decide (v < q11) then
  grd (inb v met4) <|
  bif (!(at_ false met4 v)) then some false
  else
  rec_ q11 q12 q13 met4 (w64 (v + 1))
 else
 spec_IsValidQuery_l4S q11 q12 q13 0
def spec_IsValidQuery_l3 (N : Nat) : Nat -> Int -> A0 -> I0 -> (List Bool) -> Int -> Option (Bool)
 | 0, _, _, _, _, _ => none
 | k_ + 1, q11, q12, q13, met4, v => spec_IsValidQuery_l3_b N (spec_IsValidQuery_l4 N N) (spec_IsValidQuery_l3 N k_) q11 q12 q13 met4 v
def spec_IsValidQuery_l0_b (spec_IsValidQuery_l1S : R0 -> Int -> A0 -> I0 -> (List Bool) -> Int -> Int -> I0 -> Int -> Option (Bool)) (spec_IsValidQuery_l3S : Int -> A0 -> I0 -> (List Bool) -> Int -> Option (Bool)) (rec_ : R0 -> Int -> A0 -> I0 -> (List Bool) -> Int -> Option (Bool)) (l2 : R0) (q2 : Int) (q3 : A0) (q4 : I0) (met : List Bool) (i : Int) : Option (Bool) :=
 bif decide (i < (q3.length : Int)) then
  grd (inb i q3) <|
  (spec_l1In N ((at_ (0, []) q3 i).1) 0 (w64 ((l2.length : Int) - 1))).bind fun r4 =>
  bif (!r4) then some false
  else
  grd (inb ((at_ (0, []) q3 i).1) l2) <|
  bif ((((at_ (0, []) q3 i).2).length : Int) != (((at_ (⟨#[]⟩, (0, 0)) l2 ((at_ (0, []) q3 i).1)).2).1)) then some false
  else
  spec_IsValidQuery_l1S l2 q2 q3 q4 met i ((at_ (0, []) q3 i).1) ((at_ (0, []) q3 i).2) 0
 else
 spec_IsValidQuery_l3S q2 q3 q4 met 0
def spec_IsValidQuery_l0 (N : Nat) : Nat -> R0 -> Int -> A0 -> I0 -> (List Bool) -> Int -> Option (Bool)
 | 0, _, _, _, _, _, _ => none
 | k_ + 1, l2, q2, q3, q4, met, i => spec_IsValidQuery_l0_b N (spec_IsValidQuery_l1 (spec_IsValidQuery_l0 N k_) N N) (spec_IsValidQuery_l3 N N) (spec_IsValidQuery_l0 N k_) l2 q2 q3 q4 met i
def spec_IsValidQuery_b (spec_IsValidQuery_l0S : R0 -> Int -> A0 -> I0 -> (List Bool) -> Int -> Option (Bool)) (l : R0) (q : Q0) : Option (Bool) :=
 (spec_AreValidRelations N l).bind fun r =>
 bif (!r) then some false
 else
 (spec_l1In N q.1 0 4).bind fun r2 =>
 bif (!r2) then some false
 else
 (spec_l1In N (q.2.1.length : Int) 1 3).bind fun r3 =>
 bif (!r3) then some false
 else
 grd (makeOk 4 1) <|
 spec_IsValidQuery_l0S l q.1 q.2.1 q.2.2 (List.replicate (4 : Int).toNat false) 0
def spec_IsValidQuery (l : R0) (q : Q0) : Option (Bool) := spec_IsValidQuery_b N (spec_IsValidQuery_l0 N N) l q
def spec_IsQueryFor (d : D0) (q : Q0) : Option (Bool) :=
 (spec_IsValidDatabase N d).bind fun r =>
 bif r then
  (spec_IsValidQuery N d.1 q).bind fun r2 =>
  some r2
 else
 some false
def spec_l12None_l0_b (N : Nat) (rec_ : Int -> I0 -> Option I0) (n2 : Int) (l : I0) : Option I0 :=
 bif decide ((l.length : Int) < n2) then
  grd (appOk l [(-1)] 8) <|
  rec_ n2 (l ++ [(-1)])
 else
 some l
def spec_l12None_l0 (N : Nat) : Nat -> Int -> I0 -> Option I0
 | 0, _, _ => none
 | k_ + 1, n2, l => spec_l12None_l0_b N (spec_l12None_l0 N k_) n2 l
def spec_l12None_b (N : Nat) (spec_l12None_l0S : Int -> I0 -> Option I0) (n : Int) : Option I0 :=
 spec_l12None_l0S n []
def spec_l12None (n : Int) : Option I0 := spec_l12None_b N (spec_l12None_l0 N N) n
def spec_l12Meet_l0_b (N : Nat) (rec_ : Int -> I0 -> Int -> I0 -> I0 -> Int -> Option (List Int × Bool)) (a2 : Int) (a3 : I0) (f2 : Int) (f3 : I0) (x : I0) (i : Int) : Option (List Int × Bool) :=
 bif decide (i < (a3.length : Int)) then
  grd (inb i a3) <|
  bif decide ((at_ 0 a3 i) < 0) then
   grd (inb i f3) <|
   bif ((w64 ((-1) - (at_ 0 a3 i))) != (at_ 0 f3 i)) then some (x, false)
   else
   rec_ a2 a3 f2 f3 x (w64 (i + 1))
  else
  grd (inb (at_ 0 a3 i) x) <|
  bif decide ((at_ 0 x (at_ 0 a3 i)) >= 0) then
   grd (inb (at_ 0 a3 i) x) <|
   grd (inb i f3) <|
   bif ((at_ 0 x (at_ 0 a3 i)) != (at_ 0 f3 i)) then some (x, false)
   else
   grd (inb i f3) <|
   grd (inb (at_ 0 a3 i) x) <|
   grd (inb (at_ 0 a3 i) x) <|
   letv (x.set (at_ 0 a3 i).toNat (at_ 0 f3 i)) fun u =>
   rec_ a2 a3 f2 f3 u (w64 (i + 1))
  else
  grd (inb i f3) <|
  grd (inb (at_ 0 a3 i) x) <|
  grd (inb (at_ 0 a3 i) x) <|
  letv (x.set (at_ 0 a3 i).toNat (at_ 0 f3 i)) fun u2 =>
  rec_ a2 a3 f2 f3 u2 (w64 (i + 1))
 else
 some (x, true)
def spec_l12Meet_l0 (N : Nat) : Nat -> Int -> I0 -> Int -> I0 -> I0 -> Int -> Option (List Int × Bool)
 | 0, _, _, _, _, _, _ => none
 | k_ + 1, a2, a3, f2, f3, x, i => spec_l12Meet_l0_b N (spec_l12Meet_l0 N k_) a2 a3 f2 f3 x i
def spec_l12Meet_b (N : Nat) (spec_l12Meet_l0S : Int -> I0 -> Int -> I0 -> I0 -> Int -> Option (List Int × Bool)) (a : Int × List Int) (f : Int × List Int) (vals : I0) : Option (List Int × Bool) :=
 grd (appOk [] vals 8) <|
 bif (f.1 != a.1) then some (vals, false)
 else
 bif ((f.2.length : Int) != (a.2.length : Int)) then some (vals, false)
 else
 spec_l12Meet_l0S a.1 a.2 f.1 f.2 vals 0
def spec_l12Meet (a : Int × List Int) (f : Int × List Int) (vals : I0) : Option (List Int × Bool) := spec_l12Meet_b N (spec_l12Meet_l0 N N) a f vals
def spec_l12Walk_l0_b (Rf : D0 -> Q0 -> Int -> I0 -> I0 -> Option (List (List Int × List Int))) (rec_ : Int -> I0 -> I0 -> R0 -> A0 -> Int -> A0 -> I0 -> (List (List Int × List Int)) -> Int -> Option (List (List Int × List Int))) (k2 : Int) (vals2 : I0) (facts2 : I0) (d2 : R0) (d3 : A0) (q2 : Int) (q3 : A0) (q4 : I0) (out : List (List Int × List Int)) (i : Int) : Option (List (List Int × List Int)) :=
 bif decide (i < (d3.length : Int)) then
  grd (inb k2 q3) <|
  grd (inb i d3) <|
  (spec_l12Meet N (at_ (0, []) q3 k2) (at_ (0, []) d3 i) vals2).bind fun p_r =>
  bif p_r.2 then
   grd (appOk [] facts2 8) <|
   grd (appOk facts2 [i] 8) <|
   (Rf (d2, d3) (q2, q3, q4) (w64 (k2 + 1)) p_r.1 (facts2 ++ [i])).bind fun r3 =>
   grd (appOk out r3 48) <|
   rec_ k2 vals2 facts2 d2 d3 q2 q3 q4 (out ++ r3) (w64 (i + 1))
  else
  rec_ k2 vals2 facts2 d2 d3 q2 q3 q4 out (w64 (i + 1))
 else
 some out
def spec_l12Walk_l0 (N : Nat) (Rf : D0 -> Q0 -> Int -> I0 -> I0 -> Option (List (List Int × List Int))) : Nat -> Int -> I0 -> I0 -> R0 -> A0 -> Int -> A0 -> I0 -> (List (List Int × List Int)) -> Int -> Option (List (List Int × List Int))
 | 0, _, _, _, _, _, _, _, _, _, _ => none
 | k_ + 1, k2, vals2, facts2, d2, d3, q2, q3, q4, out, i => spec_l12Walk_l0_b N Rf (spec_l12Walk_l0 N Rf k_) k2 vals2 facts2 d2 d3 q2 q3 q4 out i
def spec_l12Walk_b (N : Nat) (Rf : D0 -> Q0 -> Int -> I0 -> I0 -> Option (List (List Int × List Int))) (spec_l12Walk_l0S : Int -> I0 -> I0 -> R0 -> A0 -> Int -> A0 -> I0 -> (List (List Int × List Int)) -> Int -> Option (List (List Int × List Int))) (d : D0) (q : Q0) (k : Int) (vals : I0) (facts : I0) : Option (List (List Int × List Int)) :=
 bif (k == (q.2.1.length : Int)) then
  grd (appOk [] vals 8) <|
  grd (appOk [] facts 8) <|
  some [(vals, facts)]
 else
 spec_l12Walk_l0S k vals facts d.1 d.2 q.1 q.2.1 q.2.2 [] 0
def spec_l12Walk_r (N : Nat) : Nat -> D0 -> Q0 -> Int -> I0 -> I0 -> Option (List (List Int × List Int))
 | 0, _, _, _, _, _ => none
 | k_ + 1, d, q, k, vals, facts => spec_l12Walk_b N (spec_l12Walk_r N k_) (spec_l12Walk_l0 N (spec_l12Walk_r N k_) N) d q k vals facts
def spec_l12Walk (d : D0) (q : Q0) (k : Int) (vals : I0) (facts : I0) : Option (List (List Int × List Int)) := spec_l12Walk_r N N d q k vals facts
def spec_FindEmbeddings (d : D0) (q : Q0) : Option (List (List Int × List Int)) :=
 (spec_IsQueryFor N d q).bind fun r =>
 bif (!r) then some []
 else
 (spec_l12None N q.1).bind fun r2 =>
 (spec_l12Walk N d q 0 r2 []).bind fun r3 =>
 some r3
def spec_l7Sorted_l1_b (N : Nat) (spec_l7Sorted_l0R : I0 -> I0 -> Int -> Option I0) (rec_ : I0 -> I0 -> Int -> Int -> Option I0) (l3 : I0) (out2 : I0) (i2 : Int) (k : Int) : Option I0 :=
 bif decide (k > 0) then
  grd (inb (w64 (k - 1)) out2) <|
  grd (inb i2 l3) <|
  bif decide ((at_ 0 out2 (w64 (k - 1))) > (at_ 0 l3 i2)) then rec_ l3 out2 i2 (w64 (k - 1))
  else
  grd (subOk 0 k out2.length) <|
  grd (appOk [] (out2.take k.toNat) 8) <|
  grd (inb i2 l3) <|
  grd (appOk (out2.take k.toNat) [(at_ 0 l3 i2)] 8) <|
  grd (subOk k (out2.length : Int) out2.length) <|
  grd (appOk ((out2.take k.toNat) ++ [(at_ 0 l3 i2)]) (out2.drop k.toNat) 8) <|
  spec_l7Sorted_l0R l3 (((out2.take k.toNat) ++ [(at_ 0 l3 i2)]) ++ (out2.drop k.toNat)) (w64 (i2 + 1))
 else
 grd (subOk 0 k out2.length) <|
 grd (appOk [] (out2.take k.toNat) 8) <|
 grd (inb i2 l3) <|
 grd (appOk (out2.take k.toNat) [(at_ 0 l3 i2)] 8) <|
 grd (subOk k (out2.length : Int) out2.length) <|
 grd (appOk ((out2.take k.toNat) ++ [(at_ 0 l3 i2)]) (out2.drop k.toNat) 8) <|
 spec_l7Sorted_l0R l3 (((out2.take k.toNat) ++ [(at_ 0 l3 i2)]) ++ (out2.drop k.toNat)) (w64 (i2 + 1))
def spec_l7Sorted_l1 (spec_l7Sorted_l0R : I0 -> I0 -> Int -> Option I0) (N : Nat) : Nat -> I0 -> I0 -> Int -> Int -> Option I0
 | 0, _, _, _, _ => none
 | k_ + 1, l3, out2, i2, k => spec_l7Sorted_l1_b N spec_l7Sorted_l0R (spec_l7Sorted_l1 spec_l7Sorted_l0R N k_) l3 out2 i2 k
def spec_l7Sorted_l0_b (N : Nat) (spec_l7Sorted_l1S : I0 -> I0 -> Int -> Int -> Option I0) (rec_ : I0 -> I0 -> Int -> Option I0) (l2 : I0) (out : I0) (i : Int) : Option I0 :=
 bif decide (i < (l2.length : Int)) then spec_l7Sorted_l1S l2 out i (out.length : Int)
 else
 some out
def spec_l7Sorted_l0 (N : Nat) : Nat -> I0 -> I0 -> Int -> Option I0
 | 0, _, _, _ => none
 | k_ + 1, l2, out, i => spec_l7Sorted_l0_b N (spec_l7Sorted_l1 (spec_l7Sorted_l0 N k_) N N) (spec_l7Sorted_l0 N k_) l2 out i
def spec_l7Sorted_b (N : Nat) (spec_l7Sorted_l0S : I0 -> I0 -> Int -> Option I0) (l : I0) : Option I0 :=
 spec_l7Sorted_l0S l [] 0
def spec_l7Sorted (l : I0) : Option I0 := spec_l7Sorted_b N (spec_l7Sorted_l0 N N) l
def spec_l4Set_l0_b (rec_ : I0 -> R0 -> A0 -> Int -> Option (Bool)) (l2 : I0) (d2 : R0) (d3 : A0) (i : Int) : Option (Bool) :=
 bif decide (i < (l2.length : Int)) then
  grd (inb i l2) <|
  (spec_l1In N (at_ 0 l2 i) 0 (w64 ((d3.length : Int) - 1))).bind fun r =>
  bif (!r) then some false
  else
  bif decide (i > 0) then
   grd (inb i l2) <|
   grd (inb (w64 (i - 1)) l2) <|
   bif decide ((at_ 0 l2 i) <= (at_ 0 l2 (w64 (i - 1)))) then some false
   else
   rec_ l2 d2 d3 (w64 (i + 1))
  else
  rec_ l2 d2 d3 (w64 (i + 1))
 else
 some true
def spec_l4Set_l0 (N : Nat) : Nat -> I0 -> R0 -> A0 -> Int -> Option (Bool)
 | 0, _, _, _, _ => none
 | k_ + 1, l2, d2, d3, i => spec_l4Set_l0_b N (spec_l4Set_l0 N k_) l2 d2 d3 i
def spec_l4Set_b (N : Nat) (spec_l4Set_l0S : I0 -> R0 -> A0 -> Int -> Option (Bool)) (d : D0) (l : I0) : Option (Bool) :=
 spec_l4Set_l0S l d.1 d.2 0
def spec_l4Set (d : D0) (l : I0) : Option (Bool) := spec_l4Set_b N (spec_l4Set_l0 N N) d l
def spec_SelectFacts_l0_b (N : Nat) (rec_ : I0 -> R0 -> A0 -> R0 -> A0 -> R0 -> A0 -> Int -> Option (D0 × Bool)) (l2 : I0) (d2 : R0) (d3 : A0) (t4 : R0) (t42 : A0) (x : R0) (x2 : A0) (i : Int) : Option (D0 × Bool) :=
 bif decide (i < (l2.length : Int)) then
  grd (inb i l2) <|
  grd (inb (at_ 0 l2 i) d3) <|
  grd (appOk [] ((at_ (0, []) d3 (at_ 0 l2 i)).2) 8) <|
  grd (appOk x2 [(at_ (0, []) d3 (at_ 0 l2 i))] 32) <|
  rec_ l2 d2 d3 t4 t42 x (x2 ++ [(at_ (0, []) d3 (at_ 0 l2 i))]) (w64 (i + 1))
 else
 some ((x, x2), true)
def spec_SelectFacts_l0 (N : Nat) : Nat -> I0 -> R0 -> A0 -> R0 -> A0 -> R0 -> A0 -> Int -> Option (D0 × Bool)
 | 0, _, _, _, _, _, _, _, _ => none
 | k_ + 1, l2, d2, d3, t4, t42, x, x2, i => spec_SelectFacts_l0_b N (spec_SelectFacts_l0 N k_) l2 d2 d3 t4 t42 x x2 i
def spec_SelectFacts_b (spec_SelectFacts_l0S : I0 -> R0 -> A0 -> R0 -> A0 -> R0 -> A0 -> Int -> Option (D0 × Bool)) (d : D0) (l : I0) : Option (D0 × Bool) :=
 (spec_IsValidDatabase N d).bind fun r =>
 bif (!r) then some (([], []), false)
 else
 (spec_l4Set N d l).bind fun r2 =>
 bif (!r2) then some (([], []), false)
 else
 grd (appOk [] d.1 32) <|
 spec_SelectFacts_l0S l d.1 d.2 [] [] d.1 [] 0
def spec_SelectFacts (d : D0) (l : I0) : Option (D0 × Bool) := spec_SelectFacts_b N (spec_SelectFacts_l0 N N) d l
def spec_BlockOf_l0_b (rec_ : Int -> R0 -> A0 -> I0 -> Int -> Option I0) (i2 : Int) (d2 : R0) (d3 : A0) (out : I0) (k : Int) : Option I0 :=
 bif decide (k < (d3.length : Int)) then
  (spec_IsValidDatabase N (d2, d3)).bind fun r =>
  bif r then
   (spec_l1In N i2 0 (w64 ((d3.length : Int) - 1))).bind fun r2 =>
   bif r2 then
    grd (inb i2 d3) <|
    grd (inb k d3) <|
    (spec_HaveSameKey N d2 (at_ (0, []) d3 i2) (at_ (0, []) d3 k)).bind fun r3 =>
    bif r3 then
     grd (appOk out [k] 8) <|
     rec_ i2 d2 d3 (out ++ [k]) (w64 (k + 1))
    else
    rec_ i2 d2 d3 out (w64 (k + 1))
   else
   some out
  else
  some out
 else
 some out
def spec_BlockOf_l0 (N : Nat) : Nat -> Int -> R0 -> A0 -> I0 -> Int -> Option I0
 | 0, _, _, _, _, _ => none
 | k_ + 1, i2, d2, d3, out, k => spec_BlockOf_l0_b N (spec_BlockOf_l0 N k_) i2 d2 d3 out k
def spec_BlockOf_b (N : Nat) (spec_BlockOf_l0S : Int -> R0 -> A0 -> I0 -> Int -> Option I0) (d : D0) (i : Int) : Option I0 :=
 spec_BlockOf_l0S i d.1 d.2 [] 0
def spec_BlockOf (d : D0) (i : Int) : Option I0 := spec_BlockOf_b N (spec_BlockOf_l0 N N) d i
def spec_Blocks_l0_b (rec_ : R0 -> A0 -> L0 -> Int -> Option L0) (d2 : R0) (d3 : A0) (out : L0) (i : Int) : Option L0 :=
 bif decide (i < (d3.length : Int)) then
  (spec_IsValidDatabase N (d2, d3)).bind fun r =>
  bif r then
   (spec_BlockOf N (d2, d3) i).bind fun r2 =>
   grd (inb 0 r2) <|
   bif ((at_ 0 r2 0) == i) then
    grd (appOk out [r2] 24) <|
    rec_ d2 d3 (out ++ [r2]) (w64 (i + 1))
   else
   rec_ d2 d3 out (w64 (i + 1))
  else
  some out
 else
 some out
def spec_Blocks_l0 (N : Nat) : Nat -> R0 -> A0 -> L0 -> Int -> Option L0
 | 0, _, _, _, _ => none
 | k_ + 1, d2, d3, out, i => spec_Blocks_l0_b N (spec_Blocks_l0 N k_) d2 d3 out i
def spec_Blocks_b (N : Nat) (spec_Blocks_l0S : R0 -> A0 -> L0 -> Int -> Option L0) (d : D0) : Option L0 :=
 spec_Blocks_l0S d.1 d.2 [] 0
def spec_Blocks (d : D0) : Option L0 := spec_Blocks_b N (spec_Blocks_l0 N N) d
def spec_IsConsistent (d : D0) : Option (Bool) :=
 (spec_IsValidDatabase N d).bind fun r =>
 bif r then
  (spec_Blocks N d).bind fun r2 =>
  some ((r2.length : Int) == (d.2.length : Int))
 else
 some false
def spec_IsPartialRepair (d : D0) (l : I0) : Option (Bool) :=
 (spec_SelectFacts N d l).bind fun p_r =>
 bif p_r.2 then
  (spec_IsConsistent N p_r.1).bind fun r3 =>
  some r3
 else
 some false
def spec_Witnesses_l0_b (rec_ : R0 -> A0 -> L0 -> (List (List Int × List Int)) -> Int -> Option L0) (d2 : R0) (d3 : A0) (out : L0) (l : List (List Int × List Int)) (i : Int) : Option L0 :=
 bif decide (i < (l.length : Int)) then
  grd (inb i l) <|
  (spec_l7Sorted N ((at_ ([], []) l i).2)).bind fun r2 =>
  (spec_IsPartialRepair N (d2, d3) r2).bind fun r3 =>
  bif r3 then
   grd (appOk out [r2] 24) <|
   rec_ d2 d3 (out ++ [r2]) l (w64 (i + 1))
  else
  rec_ d2 d3 out l (w64 (i + 1))
 else
 some out
def spec_Witnesses_l0 (N : Nat) : Nat -> R0 -> A0 -> L0 -> (List (List Int × List Int)) -> Int -> Option L0
 | 0, _, _, _, _, _ => none
 | k_ + 1, d2, d3, out, l, i => spec_Witnesses_l0_b N (spec_Witnesses_l0 N k_) d2 d3 out l i
def spec_Witnesses_b (spec_Witnesses_l0S : R0 -> A0 -> L0 -> (List (List Int × List Int)) -> Int -> Option L0) (d : D0) (q : Q0) : Option L0 :=
 (spec_FindEmbeddings N d q).bind fun r =>
 spec_Witnesses_l0S d.1 d.2 [] r 0
def spec_Witnesses (d : D0) (q : Q0) : Option L0 := spec_Witnesses_b N (spec_Witnesses_l0 N N) d q
def spec_l13Met_l1_b (spec_l13Met_l0R : L0 -> I0 -> Int -> Option (Bool)) (rec_ : L0 -> I0 -> Int -> Bool -> Int -> Option (Bool)) (l3 : L0) (s3 : I0) (i2 : Int) (all : Bool) (k : Int) : Option (Bool) :=
 grd (inb i2 l3) <|
 bif decide (k < ((at_ [] l3 i2).length : Int)) then
  bif all then
   grd (inb i2 l3) <|
   grd (inb k (at_ [] l3 i2)) <|
   (spec_l7Has N s3 (at_ 0 (at_ [] l3 i2) k)).bind fun r =>
   rec_ l3 s3 i2 r (w64 (k + 1))
  else
  rec_ l3 s3 i2 false (w64 (k + 1))
 else
 bif all then some true
 else
 spec_l13Met_l0R l3 s3 (w64 (i2 + 1))
def spec_l13Met_l1 (spec_l13Met_l0R : L0 -> I0 -> Int -> Option (Bool)) (N : Nat) : Nat -> L0 -> I0 -> Int -> Bool -> Int -> Option (Bool)
 | 0, _, _, _, _, _ => none
 | k_ + 1, l3, s3, i2, all, k => spec_l13Met_l1_b N spec_l13Met_l0R (spec_l13Met_l1 spec_l13Met_l0R N k_) l3 s3 i2 all k
def spec_l13Met_l0_b (N : Nat) (spec_l13Met_l1S : L0 -> I0 -> Int -> Bool -> Int -> Option (Bool)) (rec_ : L0 -> I0 -> Int -> Option (Bool)) (l2 : L0) (s2 : I0) (i : Int) : Option (Bool) :=
 bif decide (i < (l2.length : Int)) then spec_l13Met_l1S l2 s2 i true 0
 else
 some false
def spec_l13Met_l0 (N : Nat) : Nat -> L0 -> I0 -> Int -> Option (Bool)
 | 0, _, _, _ => none
 | k_ + 1, l2, s2, i => spec_l13Met_l0_b N (spec_l13Met_l1 (spec_l13Met_l0 N k_) N N) (spec_l13Met_l0 N k_) l2 s2 i
def spec_l13Met_b (N : Nat) (spec_l13Met_l0S : L0 -> I0 -> Int -> Option (Bool)) (l : L0) (s : I0) : Option (Bool) :=
 spec_l13Met_l0S l s 0
def spec_l13Met (l : L0) (s : I0) : Option (Bool) := spec_l13Met_b N (spec_l13Met_l0 N N) l s
def spec_IsCovered (l : L0) (s : I0) : Option (Bool) :=
 (spec_l13Met N l s).bind fun r =>
 some r
def spec_SubsetCounts_l0_b (rec_ : R0 -> A0 -> Int -> A0 -> I0 -> Int -> L0 -> L0 -> Int -> Option (Int × Int)) (d2 : R0) (d3 : A0) (q2 : Int) (q3 : A0) (q4 : I0) (n : Int) (sets : L0) (need : L0) (i : Int) : Option (Int × Int) :=
 bif decide (i < (sets.length : Int)) then
  (spec_IsQueryFor N (d2, d3) (q2, q3, q4)).bind fun r3 =>
  bif r3 then
   grd (inb i sets) <|
   (spec_IsCovered N need (at_ [] sets i)).bind fun r4 =>
   bif r4 then rec_ d2 d3 q2 q3 q4 (w64 (n + 1)) sets need (w64 (i + 1))
   else
   rec_ d2 d3 q2 q3 q4 n sets need (w64 (i + 1))
  else
  some (n, (sets.length : Int))
 else
 some (n, (sets.length : Int))
def spec_SubsetCounts_l0 (N : Nat) : Nat -> R0 -> A0 -> Int -> A0 -> I0 -> Int -> L0 -> L0 -> Int -> Option (Int × Int)
 | 0, _, _, _, _, _, _, _, _, _ => none
 | k_ + 1, d2, d3, q2, q3, q4, n, sets, need, i => spec_SubsetCounts_l0_b N (spec_SubsetCounts_l0 N k_) d2 d3 q2 q3 q4 n sets need i
def spec_SubsetCounts_b (spec_SubsetCounts_l0S : R0 -> A0 -> Int -> A0 -> I0 -> Int -> L0 -> L0 -> Int -> Option (Int × Int)) (d : D0) (l : List C0) (q : Q0) : Option (Int × Int) :=
 (spec_SubsetRepairs N d l).bind fun r =>
 (spec_Witnesses N d q).bind fun r2 =>
 spec_SubsetCounts_l0S d.1 d.2 q.1 q.2.1 q.2.2 0 r r2 0
def spec_SubsetCounts (d : D0) (l : List C0) (q : Q0) : Option (Int × Int) := spec_SubsetCounts_b N (spec_SubsetCounts_l0 N N) d l q
def impl_within (N : Nat) (n : Int) (low : Int) (high : Int) : Option (Bool) :=
 bif decide (low <= n) then some (decide (n <= high))
 else
 some false
def impl_IsValidRelation (relation : ByteArray × Int × Int) : Option (Bool) :=
 bif ((relation.1.size : Int) == 1) then
  (byteAt relation.1 0).bind fun b =>
  bif decide ((b.toNat : Int) >= 97) then
   (byteAt relation.1 0).bind fun b2 =>
   bif decide ((b2.toNat : Int) <= 122) then
    (impl_within N relation.2.1 1 3).bind fun r =>
    bif r then
     (impl_within N relation.2.2 0 relation.2.1).bind fun r2 =>
     some r2
    else
    some false
   else
   some false
  else
  some false
 else
 some false
def impl_AreValidRelations_l0_b (rec_ : R0 -> R0 -> Int -> Int -> Option (Bool)) (relations2 : R0) (t5 : R0) (t6 : Int) (t7 : Int) : Option (Bool) :=
 bif decide (t7 < t6) then
  grd (inb t7 t5) <|
  (impl_IsValidRelation N ((at_ (⟨#[]⟩, (0, 0)) t5 t7).1, ((at_ (⟨#[]⟩, (0, 0)) t5 t7).2))).bind fun r =>
  bif (!r) then some false
  else
  bif decide (t7 > 0) then
   grd (inb (w64 (t7 - 1)) relations2) <|
   bif (!slt ((at_ (⟨#[]⟩, (0, 0)) relations2 (w64 (t7 - 1))).1) ((at_ (⟨#[]⟩, (0, 0)) t5 t7).1)) then some false
   else
   rec_ relations2 t5 t6 (w64 (t7 + 1))
  else
  rec_ relations2 t5 t6 (w64 (t7 + 1))
 else
 some (decide ((relations2.length : Int) <= 4))
def impl_AreValidRelations_l0 (N : Nat) : Nat -> R0 -> R0 -> Int -> Int -> Option (Bool)
 | 0, _, _, _, _ => none
 | k_ + 1, relations2, t5, t6, t7 => impl_AreValidRelations_l0_b N (impl_AreValidRelations_l0 N k_) relations2 t5 t6 t7
def impl_AreValidRelations_b (N : Nat) (impl_AreValidRelations_l0S : R0 -> R0 -> Int -> Int -> Option (Bool)) (relations : R0) : Option (Bool) :=
 impl_AreValidRelations_l0S relations relations (relations.length : Int) 0
def impl_AreValidRelations (relations : R0) : Option (Bool) := impl_AreValidRelations_b N (impl_AreValidRelations_l0 N N) relations
def impl_areValues_c1 (v : Int) : Option (Bool) :=
 (impl_within N v 0 9).bind fun r =>
 some (!r)
def slices_IndexFunc_Lint_int_areValues_c1_l0_b (rec_ : I0 -> Int -> Int -> Option (Int)) (s2 : I0) (t7 : Int) (t8 : Int) : Option (Int) :=
 bif decide (t8 < t7) then
  grd (inb t8 s2) <|
  (impl_areValues_c1 N (at_ 0 s2 t8)).bind fun r =>
  bif r then some t8
  else
  rec_ s2 t7 (w64 (t8 + 1))
 else
 some (-1)
def slices_IndexFunc_Lint_int_areValues_c1_l0 (N : Nat) : Nat -> I0 -> Int -> Int -> Option (Int)
 | 0, _, _, _ => none
 | k_ + 1, s2, t7, t8 => slices_IndexFunc_Lint_int_areValues_c1_l0_b N (slices_IndexFunc_Lint_int_areValues_c1_l0 N k_) s2 t7 t8
def slices_IndexFunc_Lint_int_areValues_c1_b (N : Nat) (slices_IndexFunc_Lint_int_areValues_c1_l0S : I0 -> Int -> Int -> Option (Int)) (s : I0) : Option (Int) :=
 slices_IndexFunc_Lint_int_areValues_c1_l0S s (s.length : Int) 0
def slices_IndexFunc_Lint_int_areValues_c1 (s : I0) : Option (Int) := slices_IndexFunc_Lint_int_areValues_c1_b N (slices_IndexFunc_Lint_int_areValues_c1_l0 N N) s
def slices_ContainsFunc_Lint_int_areValues_c1 (s : I0) : Option (Bool) :=
 (slices_IndexFunc_Lint_int_areValues_c1 N s).bind fun r =>
 some (decide (r >= 0))
def impl_areValues (list : I0) : Option (Bool) :=
 (slices_ContainsFunc_Lint_int_areValues_c1 N list).bind fun r =>
 some (!r)
def impl_isFact (relations : R0) (fact : Int × List Int) : Option (Bool) :=
 (impl_within N fact.1 0 (w64 ((relations.length : Int) - 1))).bind fun r =>
 bif r then
  grd (inb fact.1 relations) <|
  bif ((fact.2.length : Int) == (((at_ (⟨#[]⟩, (0, 0)) relations fact.1).2).1)) then
   (impl_areValues N fact.2).bind fun r2 =>
   some r2
  else
  some false
 else
 some false
def impl_compare (N : Nat) (a : Int) (b : Int) : Option (Int) :=
 bif decide (a < b) then some (-1)
 else
 bif decide (a > b) then some 1
 else
 some 0
def cmp_isNaN_int (N : Nat) (x : Int) : Option (Bool) :=
 some (x != x)
def cmp_Compare_int (x : Int) (y : Int) : Option (Int) :=
 (cmp_isNaN_int N x).bind fun r =>
 (cmp_isNaN_int N y).bind fun r2 =>
 bif r then
  bif r2 then some 0
  else
  some (-1)
 else
 bif r2 then some 1
 else
 bif decide (x < y) then some (-1)
 else
 bif decide (x > y) then some 1
 else
 some 0
def slices_Compare_Lint_int_l0_b (rec_ : I0 -> I0 -> I0 -> Int -> Int -> Option (Int)) (s12 : I0) (s22 : I0) (t9 : I0) (t10 : Int) (t11 : Int) : Option (Int) :=
 bif decide (t11 < t10) then
  grd (inb t11 t9) <|
  bif decide (t11 >= (s22.length : Int)) then some 1
  else
  grd (inb t11 s22) <|
  (cmp_Compare_int N (at_ 0 t9 t11) (at_ 0 s22 t11)).bind fun r =>
  bif (r != 0) then some r
  else
  rec_ s12 s22 t9 t10 (w64 (t11 + 1))
 else
 bif decide ((s12.length : Int) < (s22.length : Int)) then some (-1)
 else
 some 0
def slices_Compare_Lint_int_l0 (N : Nat) : Nat -> I0 -> I0 -> I0 -> Int -> Int -> Option (Int)
 | 0, _, _, _, _, _ => none
 | k_ + 1, s12, s22, t9, t10, t11 => slices_Compare_Lint_int_l0_b N (slices_Compare_Lint_int_l0 N k_) s12 s22 t9 t10 t11
def slices_Compare_Lint_int_b (N : Nat) (slices_Compare_Lint_int_l0S : I0 -> I0 -> I0 -> Int -> Int -> Option (Int)) (s1 : I0) (s2 : I0) : Option (Int) :=
 slices_Compare_Lint_int_l0S s1 s2 s1 (s1.length : Int) 0
def slices_Compare_Lint_int (s1 : I0) (s2 : I0) : Option (Int) := slices_Compare_Lint_int_b N (slices_Compare_Lint_int_l0 N N) s1 s2
def impl_CompareFacts (a : Int × List Int) (b : Int × List Int) : Option (Int) :=
 bif (a.1 != b.1) then
  (impl_compare N a.1 b.1).bind fun r =>
  some r
 else
 (slices_Compare_Lint_int N a.2 b.2).bind fun r2 =>
 some r2
def impl_IsValidDatabase_l0_b (rec_ : R0 -> A0 -> A0 -> Int -> Int -> Option (Bool)) (db2 : R0) (db3 : A0) (t16 : A0) (t17 : Int) (t18 : Int) : Option (Bool) :=
 bif decide (t18 < t17) then
  grd (inb t18 t16) <|
  (impl_isFact N db2 (at_ (0, []) t16 t18)).bind fun r2 =>
  bif (!r2) then some false
  else
  bif decide (t18 > 0) then
   grd (inb (w64 (t18 - 1)) db3) <|
   (impl_CompareFacts N (at_ (0, []) db3 (w64 (t18 - 1))) (at_ (0, []) t16 t18)).bind fun r3 =>
   bif decide (r3 >= 0) then some false
   else
   rec_ db2 db3 t16 t17 (w64 (t18 + 1))
  else
  rec_ db2 db3 t16 t17 (w64 (t18 + 1))
 else
 some true
def impl_IsValidDatabase_l0 (N : Nat) : Nat -> R0 -> A0 -> A0 -> Int -> Int -> Option (Bool)
 | 0, _, _, _, _, _ => none
 | k_ + 1, db2, db3, t16, t17, t18 => impl_IsValidDatabase_l0_b N (impl_IsValidDatabase_l0 N k_) db2 db3 t16 t17 t18
def impl_IsValidDatabase_b (impl_IsValidDatabase_l0S : R0 -> A0 -> A0 -> Int -> Int -> Option (Bool)) (db : D0) : Option (Bool) :=
 (impl_AreValidRelations N db.1).bind fun r =>
 bif (!r) then some false
 else
 bif decide ((db.2.length : Int) > 14) then some false
 else
 impl_IsValidDatabase_l0S db.1 db.2 db.2 (db.2.length : Int) 0
def impl_IsValidDatabase (db : D0) : Option (Bool) := impl_IsValidDatabase_b N (impl_IsValidDatabase_l0 N N) db
def impl_IsValidConstraint (db : D0) (constraint : C0) : Option (Bool) :=
 (impl_IsValidDatabase N db).bind fun r =>
 bif (!r) then some false
 else
 (impl_within N constraint.1 0 (w64 ((db.1.length : Int) - 1))).bind fun r2 =>
 bif (!r2) then some false
 else
 (impl_within N constraint.2.1 0 (w64 ((db.1.length : Int) - 1))).bind fun r3 =>
 bif (!r3) then some false
 else
 grd (inb constraint.1 db.1) <|
 grd (inb constraint.2.1 db.1) <|
 (impl_within N constraint.2.2.1 0 (w64 ((((at_ (⟨#[]⟩, (0, 0)) db.1 constraint.1).2).1) - 1))).bind fun r4 =>
 bif r4 then
  (impl_within N constraint.2.2.2.2.1 0 (w64 ((((at_ (⟨#[]⟩, (0, 0)) db.1 constraint.1).2).1) - 1))).bind fun r5 =>
  bif r5 then
   (impl_within N constraint.2.2.2.1 0 (w64 ((((at_ (⟨#[]⟩, (0, 0)) db.1 constraint.2.1).2).1) - 1))).bind fun r6 =>
   bif r6 then
    (impl_within N constraint.2.2.2.2.2.1 0 (w64 ((((at_ (⟨#[]⟩, (0, 0)) db.1 constraint.2.1).2).1) - 1))).bind fun r7 =>
    bif r7 then
     (impl_within N constraint.2.2.2.2.2.2 1 2).bind fun r8 =>
     some r8
    else
    some false
   else
   some false
  else
  some false
 else
 some false
def impl_violates (N : Nat) (c : C0) (a : Int × List Int) (b : Int × List Int) : Option (Bool) :=
 bif (a.1 != c.1) then some false
 else
 bif (b.1 != c.2.1) then some false
 else
 grd (inb c.2.2.1 a.2) <|
 grd (inb c.2.2.2.1 b.2) <|
 bif ((at_ 0 a.2 c.2.2.1) != (at_ 0 b.2 c.2.2.2.1)) then some false
 else
 grd (inb c.2.2.2.2.1 a.2) <|
 grd (inb c.2.2.2.2.2.1 b.2) <|
 bif (c.2.2.2.2.2.2 == 1) then
  bif ((at_ 0 a.2 c.2.2.2.2.1) == (at_ 0 b.2 c.2.2.2.2.2.1)) then some true
  else
  bif (c.2.2.2.2.2.2 == 2) then
   some (decide ((at_ 0 a.2 c.2.2.2.2.1) < (at_ 0 b.2 c.2.2.2.2.2.1)))
  else
  some false
 else
 bif (c.2.2.2.2.2.2 == 2) then
  some (decide ((at_ 0 a.2 c.2.2.2.2.1) < (at_ 0 b.2 c.2.2.2.2.2.1)))
 else
 some false
def impl_ViolatesConstraint (db : D0) (constraint : C0) (first : Int) (second : Int) : Option (Bool) :=
 (impl_IsValidConstraint N db constraint).bind fun r =>
 bif r then
  bif (first != second) then
   (impl_within N first 0 (w64 ((db.2.length : Int) - 1))).bind fun r2 =>
   bif r2 then
    (impl_within N second 0 (w64 ((db.2.length : Int) - 1))).bind fun r3 =>
    bif r3 then
     grd (inb first db.2) <|
     grd (inb second db.2) <|
     (impl_violates N constraint (at_ (0, []) db.2 first) (at_ (0, []) db.2 second)).bind fun r4 =>
     some r4
    else
    some false
   else
   some false
  else
  some false
 else
 some false
def slices_Equal_Lint_int_l0_b (N : Nat) (rec_ : I0 -> I0 -> Int -> Int -> Option (Bool)) (s12 : I0) (s22 : I0) (t12 : Int) (t13 : Int) : Option (Bool) :=
 bif decide (t13 < t12) then
  grd (inb t13 s12) <|
  grd (inb t13 s22) <|
  bif ((at_ 0 s12 t13) != (at_ 0 s22 t13)) then some false
  else
  rec_ s12 s22 t12 (w64 (t13 + 1))
 else
 some true
def slices_Equal_Lint_int_l0 (N : Nat) : Nat -> I0 -> I0 -> Int -> Int -> Option (Bool)
 | 0, _, _, _, _ => none
 | k_ + 1, s12, s22, t12, t13 => slices_Equal_Lint_int_l0_b N (slices_Equal_Lint_int_l0 N k_) s12 s22 t12 t13
def slices_Equal_Lint_int_b (N : Nat) (slices_Equal_Lint_int_l0S : I0 -> I0 -> Int -> Int -> Option (Bool)) (s1 : I0) (s2 : I0) : Option (Bool) :=
 bif ((s1.length : Int) != (s2.length : Int)) then some false
 else
 slices_Equal_Lint_int_l0S s1 s2 (s1.length : Int) 0
def slices_Equal_Lint_int (s1 : I0) (s2 : I0) : Option (Bool) := slices_Equal_Lint_int_b N (slices_Equal_Lint_int_l0 N N) s1 s2
def impl_sameKey (relations : R0) (a : Int × List Int) (b : Int × List Int) : Option (Bool) :=
 bif (a.1 != b.1) then some false
 else
 grd (inb a.1 relations) <|
 grd (subOk 0 (((at_ (⟨#[]⟩, (0, 0)) relations a.1).2).2) a.2.length) <|
 grd (subOk 0 (((at_ (⟨#[]⟩, (0, 0)) relations a.1).2).2) b.2.length) <|
 (slices_Equal_Lint_int N (a.2.take (((at_ (⟨#[]⟩, (0, 0)) relations a.1).2).2).toNat) (b.2.take (((at_ (⟨#[]⟩, (0, 0)) relations a.1).2).2).toNat)).bind fun r =>
 some r
def impl_ConflictEdges_c1_l0_b (rec_ : Int -> Int -> R0 -> A0 -> (List C0) -> Int -> Int -> Option (Bool)) (a2 : Int) (b2 : Int) (t3 : R0) (t32 : A0) (t9 : List C0) (t10 : Int) (t11 : Int) : Option (Bool) :=
 bif decide (t11 < t10) then
  grd (inb t11 t9) <|
  (impl_ViolatesConstraint N (t3, t32) ((at_ (0, (0, (0, (0, (0, (0, 0)))))) t9 t11).1, ((at_ (0, (0, (0, (0, (0, (0, 0)))))) t9 t11).2).1, (((at_ (0, (0, (0, (0, (0, (0, 0)))))) t9 t11).2).2).1, ((((at_ (0, (0, (0, (0, (0, (0, 0)))))) t9 t11).2).2).2).1, (((((at_ (0, (0, (0, (0, (0, (0, 0)))))) t9 t11).2).2).2).2).1, ((((((at_ (0, (0, (0, (0, (0, (0, 0)))))) t9 t11).2).2).2).2).2)) a2 b2).bind fun r =>
  bif r then some true
  else
  (impl_ViolatesConstraint N (t3, t32) ((at_ (0, (0, (0, (0, (0, (0, 0)))))) t9 t11).1, ((at_ (0, (0, (0, (0, (0, (0, 0)))))) t9 t11).2).1, (((at_ (0, (0, (0, (0, (0, (0, 0)))))) t9 t11).2).2).1, ((((at_ (0, (0, (0, (0, (0, (0, 0)))))) t9 t11).2).2).2).1, (((((at_ (0, (0, (0, (0, (0, (0, 0)))))) t9 t11).2).2).2).2).1, ((((((at_ (0, (0, (0, (0, (0, (0, 0)))))) t9 t11).2).2).2).2).2)) b2 a2).bind fun r2 =>
  bif r2 then some true
  else
  rec_ a2 b2 t3 t32 t9 t10 (w64 (t11 + 1))
 else
 grd (inb a2 t32) <|
 grd (inb b2 t32) <|
 (impl_sameKey N t3 (at_ (0, []) t32 a2) (at_ (0, []) t32 b2)).bind fun r3 =>
 some r3
def impl_ConflictEdges_c1_l0 (N : Nat) : Nat -> Int -> Int -> R0 -> A0 -> (List C0) -> Int -> Int -> Option (Bool)
 | 0, _, _, _, _, _, _, _ => none
 | k_ + 1, a2, b2, t3, t32, t9, t10, t11 => impl_ConflictEdges_c1_l0_b N (impl_ConflictEdges_c1_l0 N k_) a2 b2 t3 t32 t9 t10 t11
def impl_ConflictEdges_c1_b (N : Nat) (impl_ConflictEdges_c1_l0S : Int -> Int -> R0 -> A0 -> (List C0) -> Int -> Int -> Option (Bool)) (a : Int) (b : Int) (c2 : List C0) (c3 : D0) : Option (Bool) :=
 impl_ConflictEdges_c1_l0S a b c3.1 c3.2 c2 (c2.length : Int) 0
def impl_ConflictEdges_c1 (a : Int) (b : Int) (c2 : List C0) (c3 : D0) : Option (Bool) := impl_ConflictEdges_c1_b N (impl_ConflictEdges_c1_l0 N N) a b c2 c3
def impl_pairs_ConflictEdges_c1_l1_b (impl_pairs_ConflictEdges_c1_l0R : Int -> (List C0) -> D0 -> E0 -> Int -> Int -> Option E0) (rec_ : Int -> (List C0) -> D0 -> E0 -> Int -> Int -> Int -> Int -> Option E0) (n3 : Int) (holds3 : List C0) (holds4 : D0) (out2 : E0) (a : Int) (b : Int) (t92 : Int) (t102 : Int) : Option E0 :=
 bif decide (b < n3) then
  (impl_ConflictEdges_c1 N a b holds3 holds4).bind fun r =>
  bif r then
   grd (appOk out2 [(a, b)] 16) <|
   rec_ n3 holds3 holds4 (out2 ++ [(a, b)]) a (w64 (b + 1)) t92 t102
  else
  rec_ n3 holds3 holds4 out2 a (w64 (b + 1)) t92 t102
 else
 impl_pairs_ConflictEdges_c1_l0R n3 holds3 holds4 out2 t92 (w64 (t102 + 1))
def impl_pairs_ConflictEdges_c1_l1 (impl_pairs_ConflictEdges_c1_l0R : Int -> (List C0) -> D0 -> E0 -> Int -> Int -> Option E0) (N : Nat) : Nat -> Int -> (List C0) -> D0 -> E0 -> Int -> Int -> Int -> Int -> Option E0
 | 0, _, _, _, _, _, _, _, _ => none
 | k_ + 1, n3, holds3, holds4, out2, a, b, t92, t102 => impl_pairs_ConflictEdges_c1_l1_b N impl_pairs_ConflictEdges_c1_l0R (impl_pairs_ConflictEdges_c1_l1 impl_pairs_ConflictEdges_c1_l0R N k_) n3 holds3 holds4 out2 a b t92 t102
def impl_pairs_ConflictEdges_c1_l0_b (N : Nat) (impl_pairs_ConflictEdges_c1_l1S : Int -> (List C0) -> D0 -> E0 -> Int -> Int -> Int -> Int -> Option E0) (rec_ : Int -> (List C0) -> D0 -> E0 -> Int -> Int -> Option E0) (n2 : Int) (holds : List C0) (holds2 : D0) (out : E0) (t9 : Int) (t10 : Int) : Option E0 :=
 bif decide (t10 < t9) then
  impl_pairs_ConflictEdges_c1_l1S n2 holds holds2 out t10 (w64 (t10 + 1)) t9 t10
 else
 some out
def impl_pairs_ConflictEdges_c1_l0 (N : Nat) : Nat -> Int -> (List C0) -> D0 -> E0 -> Int -> Int -> Option E0
 | 0, _, _, _, _, _, _ => none
 | k_ + 1, n2, holds, holds2, out, t9, t10 => impl_pairs_ConflictEdges_c1_l0_b N (impl_pairs_ConflictEdges_c1_l1 (impl_pairs_ConflictEdges_c1_l0 N k_) N N) (impl_pairs_ConflictEdges_c1_l0 N k_) n2 holds holds2 out t9 t10
def impl_pairs_ConflictEdges_c1_b (N : Nat) (impl_pairs_ConflictEdges_c1_l0S : Int -> (List C0) -> D0 -> E0 -> Int -> Int -> Option E0) (n : Int) (c : List C0) (c2 : D0) : Option E0 :=
 impl_pairs_ConflictEdges_c1_l0S n c c2 [] n 0
def impl_pairs_ConflictEdges_c1 (n : Int) (c : List C0) (c2 : D0) : Option E0 := impl_pairs_ConflictEdges_c1_b N (impl_pairs_ConflictEdges_c1_l0 N N) n c c2
def impl_ConflictEdges (db : D0) (constraints : List C0) : Option E0 :=
 (impl_IsValidDatabase N db).bind fun r =>
 bif (!r) then some []
 else
 (impl_pairs_ConflictEdges_c1 N (db.2.length : Int) constraints db).bind fun r2 =>
 some r2
def impl_AreValidEdges_l0_b (N : Nat) (rec_ : Int -> E0 -> E0 -> Int -> Int -> Option (Bool)) (n2 : Int) (edges2 : E0) (t10 : E0) (t11 : Int) (t12 : Int) : Option (Bool) :=
 bif decide (t12 < t11) then
  grd (inb t12 t10) <|
  bif decide (((at_ (0, 0) t10 t12).1) < 0) then some false
  else
  bif decide (((at_ (0, 0) t10 t12).1) >= ((at_ (0, 0) t10 t12).2)) then some false
  else
  bif decide (((at_ (0, 0) t10 t12).2) >= n2) then some false
  else
  bif decide (t12 > 0) then
   grd (inb (w64 (t12 - 1)) edges2) <|
   bif decide (((at_ (0, 0) edges2 (w64 (t12 - 1))).1) > ((at_ (0, 0) t10 t12).1)) then some false
   else
   grd (inb (w64 (t12 - 1)) edges2) <|
   bif (((at_ (0, 0) edges2 (w64 (t12 - 1))).1) == ((at_ (0, 0) t10 t12).1)) then
    grd (inb (w64 (t12 - 1)) edges2) <|
    bif decide (((at_ (0, 0) edges2 (w64 (t12 - 1))).2) >= ((at_ (0, 0) t10 t12).2)) then some false
    else
    rec_ n2 edges2 t10 t11 (w64 (t12 + 1))
   else
   rec_ n2 edges2 t10 t11 (w64 (t12 + 1))
  else
  rec_ n2 edges2 t10 t11 (w64 (t12 + 1))
 else
 some true
def impl_AreValidEdges_l0 (N : Nat) : Nat -> Int -> E0 -> E0 -> Int -> Int -> Option (Bool)
 | 0, _, _, _, _, _ => none
 | k_ + 1, n2, edges2, t10, t11, t12 => impl_AreValidEdges_l0_b N (impl_AreValidEdges_l0 N k_) n2 edges2 t10 t11 t12
def impl_AreValidEdges_b (impl_AreValidEdges_l0S : Int -> E0 -> E0 -> Int -> Int -> Option (Bool)) (n : Int) (edges : E0) : Option (Bool) :=
 (impl_within N n 0 14).bind fun r =>
 bif (!r) then some false
 else
 impl_AreValidEdges_l0S n edges edges (edges.length : Int) 0
def impl_AreValidEdges (n : Int) (edges : E0) : Option (Bool) := impl_AreValidEdges_b N (impl_AreValidEdges_l0 N N) n edges
def impl_areIndices_l0_b (rec_ : I0 -> Int -> I0 -> Int -> Int -> Option (Bool)) (indices2 : I0) (n2 : Int) (t7 : I0) (t8 : Int) (t9 : Int) : Option (Bool) :=
 bif decide (t9 < t8) then
  grd (inb t9 t7) <|
  (impl_within N (at_ 0 t7 t9) 0 (w64 (n2 - 1))).bind fun r =>
  bif (!r) then some false
  else
  bif decide (t9 > 0) then
   grd (inb (w64 (t9 - 1)) indices2) <|
   bif decide ((at_ 0 indices2 (w64 (t9 - 1))) >= (at_ 0 t7 t9)) then some false
   else
   rec_ indices2 n2 t7 t8 (w64 (t9 + 1))
  else
  rec_ indices2 n2 t7 t8 (w64 (t9 + 1))
 else
 some true
def impl_areIndices_l0 (N : Nat) : Nat -> I0 -> Int -> I0 -> Int -> Int -> Option (Bool)
 | 0, _, _, _, _, _ => none
 | k_ + 1, indices2, n2, t7, t8, t9 => impl_areIndices_l0_b N (impl_areIndices_l0 N k_) indices2 n2 t7 t8 t9
def impl_areIndices_b (N : Nat) (impl_areIndices_l0S : I0 -> Int -> I0 -> Int -> Int -> Option (Bool)) (indices : I0) (n : Int) : Option (Bool) :=
 impl_areIndices_l0S indices n indices (indices.length : Int) 0
def impl_areIndices (indices : I0) (n : Int) : Option (Bool) := impl_areIndices_b N (impl_areIndices_l0 N N) indices n
def slices_Index_Lint_int_l0_b (N : Nat) (rec_ : I0 -> Int -> Int -> Int -> Option (Int)) (s2 : I0) (v2 : Int) (t7 : Int) (t8 : Int) : Option (Int) :=
 bif decide (t8 < t7) then
  grd (inb t8 s2) <|
  bif (v2 == (at_ 0 s2 t8)) then some t8
  else
  rec_ s2 v2 t7 (w64 (t8 + 1))
 else
 some (-1)
def slices_Index_Lint_int_l0 (N : Nat) : Nat -> I0 -> Int -> Int -> Int -> Option (Int)
 | 0, _, _, _, _ => none
 | k_ + 1, s2, v2, t7, t8 => slices_Index_Lint_int_l0_b N (slices_Index_Lint_int_l0 N k_) s2 v2 t7 t8
def slices_Index_Lint_int_b (N : Nat) (slices_Index_Lint_int_l0S : I0 -> Int -> Int -> Int -> Option (Int)) (s : I0) (v : Int) : Option (Int) :=
 slices_Index_Lint_int_l0S s v (s.length : Int) 0
def slices_Index_Lint_int (s : I0) (v : Int) : Option (Int) := slices_Index_Lint_int_b N (slices_Index_Lint_int_l0 N N) s v
def slices_Contains_Lint_int (s : I0) (v : Int) : Option (Bool) :=
 (slices_Index_Lint_int N s v).bind fun r =>
 some (decide (r >= 0))
def impl_IsIndependent_c1 (e : Int × Int) (c1 : I0) : Option (Bool) :=
 (slices_Contains_Lint_int N c1 e.1).bind fun r =>
 bif r then
  (slices_Contains_Lint_int N c1 e.2).bind fun r2 =>
  some r2
 else
 some false
def slices_IndexFunc_LConflictEdge_ConflictEdge_IsIndependent_c1_l0_b (rec_ : E0 -> I0 -> Int -> Int -> Option (Int)) (s2 : E0) (f : I0) (t7 : Int) (t8 : Int) : Option (Int) :=
 bif decide (t8 < t7) then
  grd (inb t8 s2) <|
  (impl_IsIndependent_c1 N (at_ (0, 0) s2 t8) f).bind fun r =>
  bif r then some t8
  else
  rec_ s2 f t7 (w64 (t8 + 1))
 else
 some (-1)
def slices_IndexFunc_LConflictEdge_ConflictEdge_IsIndependent_c1_l0 (N : Nat) : Nat -> E0 -> I0 -> Int -> Int -> Option (Int)
 | 0, _, _, _, _ => none
 | k_ + 1, s2, f, t7, t8 => slices_IndexFunc_LConflictEdge_ConflictEdge_IsIndependent_c1_l0_b N (slices_IndexFunc_LConflictEdge_ConflictEdge_IsIndependent_c1_l0 N k_) s2 f t7 t8
def slices_IndexFunc_LConflictEdge_ConflictEdge_IsIndependent_c1_b (N : Nat) (slices_IndexFunc_LConflictEdge_ConflictEdge_IsIndependent_c1_l0S : E0 -> I0 -> Int -> Int -> Option (Int)) (s : E0) (c : I0) : Option (Int) :=
 slices_IndexFunc_LConflictEdge_ConflictEdge_IsIndependent_c1_l0S s c (s.length : Int) 0
def slices_IndexFunc_LConflictEdge_ConflictEdge_IsIndependent_c1 (s : E0) (c : I0) : Option (Int) := slices_IndexFunc_LConflictEdge_ConflictEdge_IsIndependent_c1_b N (slices_IndexFunc_LConflictEdge_ConflictEdge_IsIndependent_c1_l0 N N) s c
def slices_ContainsFunc_LConflictEdge_ConflictEdge_IsIndependent_c1 (s : E0) (c : I0) : Option (Bool) :=
 (slices_IndexFunc_LConflictEdge_ConflictEdge_IsIndependent_c1 N s c).bind fun r =>
 some (decide (r >= 0))
def impl_IsIndependent (edges : E0) (set : I0) : Option (Bool) :=
 (slices_ContainsFunc_LConflictEdge_ConflictEdge_IsIndependent_c1 N edges set).bind fun r =>
 some (!r)
def impl_isIndependentSet (n : Int) (edges : E0) (set : I0) : Option (Bool) :=
 (impl_AreValidEdges N n edges).bind fun r =>
 bif r then
  (impl_areIndices N set n).bind fun r2 =>
  bif r2 then
   (impl_IsIndependent N edges set).bind fun r3 =>
   some r3
  else
  some false
 else
 some false
def impl_IsMaximalIndependent_l0_b (rec_ : E0 -> I0 -> Int -> Int -> Option (Bool)) (edges2 : E0) (set2 : I0) (t13 : Int) (t14 : Int) : Option (Bool) :=
 bif decide (t14 < t13) then
  (slices_Contains_Lint_int N set2 t14).bind fun r2 =>
  bif (!r2) then
   (slices_Clone_Lint_int N set2).bind fun r3 =>
   grd (appOk r3 [t14] 8) <|
   (impl_IsIndependent N edges2 (r3 ++ [t14])).bind fun r4 =>
   bif r4 then some false
   else
   rec_ edges2 set2 t13 (w64 (t14 + 1))
  else
  rec_ edges2 set2 t13 (w64 (t14 + 1))
 else
 some true
def impl_IsMaximalIndependent_l0 (N : Nat) : Nat -> E0 -> I0 -> Int -> Int -> Option (Bool)
 | 0, _, _, _, _ => none
 | k_ + 1, edges2, set2, t13, t14 => impl_IsMaximalIndependent_l0_b N (impl_IsMaximalIndependent_l0 N k_) edges2 set2 t13 t14
def impl_IsMaximalIndependent_b (impl_IsMaximalIndependent_l0S : E0 -> I0 -> Int -> Int -> Option (Bool)) (n : Int) (edges : E0) (set : I0) : Option (Bool) :=
 (impl_isIndependentSet N n edges set).bind fun r =>
 bif (!r) then some false
 else
 impl_IsMaximalIndependent_l0S edges set n 0
def impl_IsMaximalIndependent (n : Int) (edges : E0) (set : I0) : Option (Bool) := impl_IsMaximalIndependent_b N (impl_IsMaximalIndependent_l0 N N) n edges set
def impl_MaximalIndependentSets_c1_b (Rf : Int -> I0 -> Int -> E0 -> L0 -> Int -> E0 -> Option L0) (v : Int) (set : I0) (c2 : Int) (c3 : E0) (c4 : L0) (sc2 : Int) (sc3 : E0) : Option L0 :=
 bif (v == c2) then
  (impl_IsMaximalIndependent N c2 c3 set).bind fun r =>
  bif r then
   grd (appOk [] set 8) <|
   grd (appOk c4 [set] 24) <|
   some (c4 ++ [set])
  else
  some c4
 else
 (slices_Clone_Lint_int N set).bind fun r2 =>
 grd (appOk r2 [v] 8) <|
 (impl_IsIndependent N c3 (r2 ++ [v])).bind fun r3 =>
 bif r3 then
  (Rf (w64 (v + 1)) (r2 ++ [v]) sc2 sc3 c4 sc2 sc3).bind fun m =>
  (Rf (w64 (v + 1)) set sc2 sc3 m sc2 sc3).bind fun m2 =>
  some m2
 else
 (Rf (w64 (v + 1)) set sc2 sc3 c4 sc2 sc3).bind fun m3 =>
 some m3
def impl_MaximalIndependentSets_c1_r (N : Nat) : Nat -> Int -> I0 -> Int -> E0 -> L0 -> Int -> E0 -> Option L0
 | 0, _, _, _, _, _, _, _ => none
 | k_ + 1, v, set, c2, c3, c4, sc2, sc3 => impl_MaximalIndependentSets_c1_b N (impl_MaximalIndependentSets_c1_r N k_) v set c2 c3 c4 sc2 sc3
def impl_MaximalIndependentSets_c1 (v : Int) (set : I0) (c2 : Int) (c3 : E0) (c4 : L0) (sc2 : Int) (sc3 : E0) : Option L0 := impl_MaximalIndependentSets_c1_r N N v set c2 c3 c4 sc2 sc3
def impl_MaximalIndependentSets (n : Int) (edges : E0) : Option L0 :=
 (impl_AreValidEdges N n edges).bind fun r =>
 bif (!r) then some []
 else
 (impl_MaximalIndependentSets_c1 N 0 [] n edges [] n edges).bind fun m =>
 some m
def impl_SubsetRepairs (db : D0) (constraints : List C0) : Option L0 :=
 (impl_IsValidDatabase N db).bind fun r =>
 bif (!r) then some []
 else
 (impl_ConflictEdges N db constraints).bind fun r2 =>
 (impl_MaximalIndependentSets N (db.2.length : Int) r2).bind fun r3 =>
 some r3
def impl_IsValidQuery_c1 (N : Nat) (own : Int × List Int) (c1 : Int × List Int) : Option (Bool) :=
 some (own.1 == c1.1)
def slices_IndexFunc_LAtom_Atom_IsValidQuery_c1_l0_b (rec_ : A0 -> (Int × List Int) -> Int -> Int -> Option (Int)) (s2 : A0) (f : Int × List Int) (t7 : Int) (t8 : Int) : Option (Int) :=
 bif decide (t8 < t7) then
  grd (inb t8 s2) <|
  (impl_IsValidQuery_c1 N (at_ (0, []) s2 t8) f).bind fun r =>
  bif r then some t8
  else
  rec_ s2 f t7 (w64 (t8 + 1))
 else
 some (-1)
def slices_IndexFunc_LAtom_Atom_IsValidQuery_c1_l0 (N : Nat) : Nat -> A0 -> (Int × List Int) -> Int -> Int -> Option (Int)
 | 0, _, _, _, _ => none
 | k_ + 1, s2, f, t7, t8 => slices_IndexFunc_LAtom_Atom_IsValidQuery_c1_l0_b N (slices_IndexFunc_LAtom_Atom_IsValidQuery_c1_l0 N k_) s2 f t7 t8
def slices_IndexFunc_LAtom_Atom_IsValidQuery_c1_b (N : Nat) (slices_IndexFunc_LAtom_Atom_IsValidQuery_c1_l0S : A0 -> (Int × List Int) -> Int -> Int -> Option (Int)) (s : A0) (c : Int × List Int) : Option (Int) :=
 slices_IndexFunc_LAtom_Atom_IsValidQuery_c1_l0S s c (s.length : Int) 0
def slices_IndexFunc_LAtom_Atom_IsValidQuery_c1 (s : A0) (c : Int × List Int) : Option (Int) := slices_IndexFunc_LAtom_Atom_IsValidQuery_c1_b N (slices_IndexFunc_LAtom_Atom_IsValidQuery_c1_l0 N N) s c
def slices_ContainsFunc_LAtom_Atom_IsValidQuery_c1 (s : A0) (c : Int × List Int) : Option (Bool) :=
 (slices_IndexFunc_LAtom_Atom_IsValidQuery_c1 N s c).bind fun r =>
 some (decide (r >= 0))
def slices_Concat_Lint_int_l1_b (N : Nat) (rec_ : I0 -> L0 -> Int -> Int -> Option I0) (newslice : I0) (t25 : L0) (t26 : Int) (t27 : Int) : Option I0 :=
 bif decide (t27 < t26) then
  grd (inb t27 t25) <|
  grd (appOk newslice (at_ [] t25 t27) 8) <|
  rec_ (newslice ++ (at_ [] t25 t27)) t25 t26 (w64 (t27 + 1))
 else
 some newslice
def slices_Concat_Lint_int_l1 (N : Nat) : Nat -> I0 -> L0 -> Int -> Int -> Option I0
 | 0, _, _, _, _ => none
 | k_ + 1, newslice, t25, t26, t27 => slices_Concat_Lint_int_l1_b N (slices_Concat_Lint_int_l1 N k_) newslice t25 t26 t27
def slices_Concat_Lint_int_l0_b (slices_Concat_Lint_int_l1S : I0 -> L0 -> Int -> Int -> Option I0) (rec_ : L0 -> Int -> L0 -> Int -> Int -> Option I0) (slices2 : L0) (size : Int) (t9 : L0) (t10 : Int) (t11 : Int) : Option I0 :=
 bif decide (t11 < t10) then
  grd (inb t11 t9) <|
  bif decide ((w64 (size + ((at_ [] t9 t11).length : Int))) < 0) then none
  else
  rec_ slices2 (w64 (size + ((at_ [] t9 t11).length : Int))) t9 t10 (w64 (t11 + 1))
 else
 (slices_Grow_Lint_int N [] size).bind fun r =>
 slices_Concat_Lint_int_l1S r slices2 (slices2.length : Int) 0
def slices_Concat_Lint_int_l0 (N : Nat) : Nat -> L0 -> Int -> L0 -> Int -> Int -> Option I0
 | 0, _, _, _, _, _ => none
 | k_ + 1, slices2, size, t9, t10, t11 => slices_Concat_Lint_int_l0_b N (slices_Concat_Lint_int_l1 N N) (slices_Concat_Lint_int_l0 N k_) slices2 size t9 t10 t11
def slices_Concat_Lint_int_b (N : Nat) (slices_Concat_Lint_int_l0S : L0 -> Int -> L0 -> Int -> Int -> Option I0) (slices : L0) : Option I0 :=
 slices_Concat_Lint_int_l0S slices 0 slices (slices.length : Int) 0
def slices_Concat_Lint_int (slices : L0) : Option I0 := slices_Concat_Lint_int_b N (slices_Concat_Lint_int_l0 N N) slices
def impl_union (a : I0) (b : I0) : Option I0 :=
 (slices_Concat_Lint_int N [a, b]).bind fun r =>
 (slices_Sort_Lint_int N r).bind fun m =>
 (slices_Compact_Lint_int N m).bind fun r2 =>
 some r2
def impl_AtomVariables_l0_b (rec_ : I0 -> I0 -> Int -> Int -> Option I0) (out : I0) (t8 : I0) (t9 : Int) (t10 : Int) : Option I0 :=
 bif decide (t10 < t9) then
  grd (inb t10 t8) <|
  (impl_within N (at_ 0 t8 t10) 0 3).bind fun r =>
  bif r then
   grd (appOk out [(at_ 0 t8 t10)] 8) <|
   rec_ (out ++ [(at_ 0 t8 t10)]) t8 t9 (w64 (t10 + 1))
  else
  rec_ out t8 t9 (w64 (t10 + 1))
 else
 (impl_union N out []).bind fun r2 =>
 some r2
def impl_AtomVariables_l0 (N : Nat) : Nat -> I0 -> I0 -> Int -> Int -> Option I0
 | 0, _, _, _, _ => none
 | k_ + 1, out, t8, t9, t10 => impl_AtomVariables_l0_b N (impl_AtomVariables_l0 N k_) out t8 t9 t10
def impl_AtomVariables_b (N : Nat) (impl_AtomVariables_l0S : I0 -> I0 -> Int -> Int -> Option I0) (atom : Int × List Int) : Option I0 :=
 impl_AtomVariables_l0S [] atom.2 (atom.2.length : Int) 0
def impl_AtomVariables (atom : Int × List Int) : Option I0 := impl_AtomVariables_b N (impl_AtomVariables_l0 N N) atom
def impl_IsValidQuery_l1_b (impl_IsValidQuery_l0R : R0 -> Int -> A0 -> I0 -> I0 -> A0 -> Int -> Int -> Option (Bool)) (rec_ : R0 -> Int -> A0 -> I0 -> I0 -> Int -> I0 -> A0 -> Int -> Int -> I0 -> Int -> Int -> Option (Bool)) (relations3 : R0) (query5 : Int) (query6 : A0) (query7 : I0) (occurring2 : I0) (atom : Int) (atom2 : I0) (t362 : A0) (t372 : Int) (t382 : Int) (t71 : I0) (t72 : Int) (t73 : Int) : Option (Bool) :=
 bif decide (t73 < t72) then
  grd (inb t73 t71) <|
  (impl_within N (at_ 0 t71 t73) (-10) (w64 (query5 - 1))).bind fun r7 =>
  bif (!r7) then some false
  else
  rec_ relations3 query5 query6 query7 occurring2 atom atom2 t362 t372 t382 t71 t72 (w64 (t73 + 1))
 else
 (impl_AtomVariables N (atom, atom2)).bind fun r8 =>
 (impl_union N occurring2 r8).bind fun r9 =>
 impl_IsValidQuery_l0R relations3 query5 query6 query7 r9 t362 t372 (w64 (t382 + 1))
def impl_IsValidQuery_l1 (impl_IsValidQuery_l0R : R0 -> Int -> A0 -> I0 -> I0 -> A0 -> Int -> Int -> Option (Bool)) (N : Nat) : Nat -> R0 -> Int -> A0 -> I0 -> I0 -> Int -> I0 -> A0 -> Int -> Int -> I0 -> Int -> Int -> Option (Bool)
 | 0, _, _, _, _, _, _, _, _, _, _, _, _, _ => none
 | k_ + 1, relations3, query5, query6, query7, occurring2, atom, atom2, t362, t372, t382, t71, t72, t73 => impl_IsValidQuery_l1_b N impl_IsValidQuery_l0R (impl_IsValidQuery_l1 impl_IsValidQuery_l0R N k_) relations3 query5 query6 query7 occurring2 atom atom2 t362 t372 t382 t71 t72 t73
def impl_IsValidQuery_l0_b (impl_IsValidQuery_l1S : R0 -> Int -> A0 -> I0 -> I0 -> Int -> I0 -> A0 -> Int -> Int -> I0 -> Int -> Int -> Option (Bool)) (rec_ : R0 -> Int -> A0 -> I0 -> I0 -> A0 -> Int -> Int -> Option (Bool)) (relations2 : R0) (query2 : Int) (query3 : A0) (query4 : I0) (occurring : I0) (t36 : A0) (t37 : Int) (t38 : Int) : Option (Bool) :=
 bif decide (t38 < t37) then
  grd (inb t38 t36) <|
  (impl_within N ((at_ (0, []) t36 t38).1) 0 (w64 ((relations2.length : Int) - 1))).bind fun r5 =>
  bif (!r5) then some false
  else
  grd (inb ((at_ (0, []) t36 t38).1) relations2) <|
  bif ((((at_ (0, []) t36 t38).2).length : Int) != (((at_ (⟨#[]⟩, (0, 0)) relations2 ((at_ (0, []) t36 t38).1)).2).1)) then some false
  else
  grd (subOk 0 t38 query3.length) <|
  (slices_ContainsFunc_LAtom_Atom_IsValidQuery_c1 N (query3.take t38.toNat) (at_ (0, []) t36 t38)).bind fun r6 =>
  bif r6 then some false
  else
  impl_IsValidQuery_l1S relations2 query2 query3 query4 occurring ((at_ (0, []) t36 t38).1) ((at_ (0, []) t36 t38).2) t36 t37 t38 ((at_ (0, []) t36 t38).2) (((at_ (0, []) t36 t38).2).length : Int) 0
 else
 some ((occurring.length : Int) == query2)
def impl_IsValidQuery_l0 (N : Nat) : Nat -> R0 -> Int -> A0 -> I0 -> I0 -> A0 -> Int -> Int -> Option (Bool)
 | 0, _, _, _, _, _, _, _, _ => none
 | k_ + 1, relations2, query2, query3, query4, occurring, t36, t37, t38 => impl_IsValidQuery_l0_b N (impl_IsValidQuery_l1 (impl_IsValidQuery_l0 N k_) N N) (impl_IsValidQuery_l0 N k_) relations2 query2 query3 query4 occurring t36 t37 t38
def impl_IsValidQuery_b (impl_IsValidQuery_l0S : R0 -> Int -> A0 -> I0 -> I0 -> A0 -> Int -> Int -> Option (Bool)) (relations : R0) (query : Q0) : Option (Bool) :=
 (impl_AreValidRelations N relations).bind fun r =>
 bif (!r) then some false
 else
 (impl_within N query.1 0 4).bind fun r2 =>
 bif (!r2) then some false
 else
 (impl_within N (query.2.1.length : Int) 1 3).bind fun r3 =>
 bif (!r3) then some false
 else
 (impl_areIndices N query.2.2 query.1).bind fun r4 =>
 bif (!r4) then some false
 else
 impl_IsValidQuery_l0S relations query.1 query.2.1 query.2.2 [] query.2.1 (query.2.1.length : Int) 0
def impl_IsValidQuery (relations : R0) (query : Q0) : Option (Bool) := impl_IsValidQuery_b N (impl_IsValidQuery_l0 N N) relations query
def impl_IsQueryFor (db : D0) (query : Q0) : Option (Bool) :=
 (impl_IsValidDatabase N db).bind fun r =>
 bif r then
  (impl_IsValidQuery N db.1 query).bind fun r2 =>
  some r2
 else
 some false
def impl_copyDatabase_l0_b (N : Nat) (rec_ : R0 -> A0 -> R0 -> A0 -> A0 -> Int -> Int -> Option D0) (t2 : R0) (t22 : A0) (out : R0) (out2 : A0) (t13 : A0) (t14 : Int) (t15 : Int) : Option D0 :=
 bif decide (t15 < t14) then
  grd (inb t15 t13) <|
  grd (appOk [] ((at_ (0, []) t13 t15).2) 8) <|
  grd (appOk out2 [(at_ (0, []) t13 t15)] 32) <|
  rec_ t2 t22 out (out2 ++ [(at_ (0, []) t13 t15)]) t13 t14 (w64 (t15 + 1))
 else
 some (out, out2)
def impl_copyDatabase_l0 (N : Nat) : Nat -> R0 -> A0 -> R0 -> A0 -> A0 -> Int -> Int -> Option D0
 | 0, _, _, _, _, _, _, _ => none
 | k_ + 1, t2, t22, out, out2, t13, t14, t15 => impl_copyDatabase_l0_b N (impl_copyDatabase_l0 N k_) t2 t22 out out2 t13 t14 t15
def impl_copyDatabase_b (N : Nat) (impl_copyDatabase_l0S : R0 -> A0 -> R0 -> A0 -> A0 -> Int -> Int -> Option D0) (db : D0) : Option D0 :=
 grd (appOk [] db.1 32) <|
 impl_copyDatabase_l0S [] [] db.1 [] db.2 (db.2.length : Int) 0
def impl_copyDatabase (db : D0) : Option D0 := impl_copyDatabase_b N (impl_copyDatabase_l0 N N) db
def impl_SelectFacts_l1_b (N : Nat) (rec_ : R0 -> A0 -> R0 -> A0 -> R0 -> A0 -> I0 -> Int -> Int -> Option (D0 × Bool)) (t43 : R0) (t44 : A0) (all3 : R0) (all4 : A0) (out3 : R0) (out4 : A0) (t272 : I0) (t282 : Int) (t292 : Int) : Option (D0 × Bool) :=
 bif decide (t292 < t282) then
  grd (inb t292 t272) <|
  grd (inb (at_ 0 t272 t292) all4) <|
  grd (appOk out4 [(at_ (0, []) all4 (at_ 0 t272 t292))] 32) <|
  rec_ t43 t44 all3 all4 out3 (out4 ++ [(at_ (0, []) all4 (at_ 0 t272 t292))]) t272 t282 (w64 (t292 + 1))
 else
 some ((out3, out4), true)
def impl_SelectFacts_l1 (N : Nat) : Nat -> R0 -> A0 -> R0 -> A0 -> R0 -> A0 -> I0 -> Int -> Int -> Option (D0 × Bool)
 | 0, _, _, _, _, _, _, _, _, _ => none
 | k_ + 1, t43, t44, all3, all4, out3, out4, t272, t282, t292 => impl_SelectFacts_l1_b N (impl_SelectFacts_l1 N k_) t43 t44 all3 all4 out3 out4 t272 t282 t292
def impl_SelectFacts_l0_b (N : Nat) (impl_SelectFacts_l1S : R0 -> A0 -> R0 -> A0 -> R0 -> A0 -> I0 -> Int -> Int -> Option (D0 × Bool)) (rec_ : R0 -> A0 -> R0 -> A0 -> R0 -> A0 -> I0 -> Int -> Int -> Option (D0 × Bool)) (t4 : R0) (t42 : A0) (all : R0) (all2 : A0) (out : R0) (out2 : A0) (t27 : I0) (t28 : Int) (t29 : Int) : Option (D0 × Bool) :=
 bif decide (t29 < t28) then
  grd (inb t29 t27) <|
  grd (inb (at_ 0 t27 t29) all2) <|
  grd (appOk out2 [(at_ (0, []) all2 (at_ 0 t27 t29))] 32) <|
  impl_SelectFacts_l1S t4 t42 all all2 out (out2 ++ [(at_ (0, []) all2 (at_ 0 t27 t29))]) t27 t28 (w64 (t29 + 1))
 else
 some ((out, out2), true)
def impl_SelectFacts_l0 (N : Nat) : Nat -> R0 -> A0 -> R0 -> A0 -> R0 -> A0 -> I0 -> Int -> Int -> Option (D0 × Bool)
 | 0, _, _, _, _, _, _, _, _, _ => none
 | k_ + 1, t4, t42, all, all2, out, out2, t27, t28, t29 => impl_SelectFacts_l0_b N (impl_SelectFacts_l1 N k_) (impl_SelectFacts_l0 N k_) t4 t42 all all2 out out2 t27 t28 t29
def impl_SelectFacts_b (impl_SelectFacts_l0S : R0 -> A0 -> R0 -> A0 -> R0 -> A0 -> I0 -> Int -> Int -> Option (D0 × Bool)) (db : D0) (indices : I0) : Option (D0 × Bool) :=
 (impl_IsValidDatabase N db).bind fun r =>
 bif (!r) then some (([], []), false)
 else
 (impl_areIndices N indices (db.2.length : Int)).bind fun r2 =>
 bif (!r2) then some (([], []), false)
 else
 (impl_copyDatabase N db).bind fun r3 =>
 impl_SelectFacts_l0S [] [] r3.1 r3.2 r3.1 [] indices (indices.length : Int) 0
def impl_SelectFacts (db : D0) (indices : I0) : Option (D0 × Bool) := impl_SelectFacts_b N (impl_SelectFacts_l0 N N) db indices
def impl_unknown (n : Int) : Option I0 :=
 (slices_Repeat_Lint_int N [(-1)] n).bind fun r =>
 some r
def impl_IsVariable (N : Nat) (t : Int) : Option (Bool) :=
 some (decide (t >= 0))
def impl_ConstantTerm (N : Nat) (v : Int) : Option (Int) :=
 some (w64 ((-1) - v))
def impl_unify_l0_b (rec_ : I0 -> I0 -> I0 -> Int -> Int -> Option (List Int × Bool)) (from_2 : I0) (out : I0) (t13 : I0) (t14 : Int) (t15 : Int) : Option (List Int × Bool) :=
 bif decide (t15 < t14) then
  grd (inb t15 t13) <|
  (impl_IsVariable N (at_ 0 t13 t15)).bind fun r2 =>
  bif (!r2) then
   (impl_ConstantTerm N (at_ 0 t13 t15)).bind fun r3 =>
   grd (inb t15 from_2) <|
   bif (r3 != (at_ 0 from_2 t15)) then some ([], false)
   else
   rec_ from_2 out t13 t14 (w64 (t15 + 1))
  else
  grd (inb (at_ 0 t13 t15) out) <|
  bif decide ((at_ 0 out (at_ 0 t13 t15)) < 0) then
   grd (inb t15 from_2) <|
   grd (inb (at_ 0 t13 t15) out) <|
   grd (inb (at_ 0 t13 t15) out) <|
   letv (out.set (at_ 0 t13 t15).toNat (at_ 0 from_2 t15)) fun u =>
   rec_ from_2 u t13 t14 (w64 (t15 + 1))
  else
  grd (inb (at_ 0 t13 t15) out) <|
  grd (inb t15 from_2) <|
  bif ((at_ 0 out (at_ 0 t13 t15)) != (at_ 0 from_2 t15)) then some ([], false)
  else
  rec_ from_2 out t13 t14 (w64 (t15 + 1))
 else
 some (out, true)
def impl_unify_l0 (N : Nat) : Nat -> I0 -> I0 -> I0 -> Int -> Int -> Option (List Int × Bool)
 | 0, _, _, _, _, _ => none
 | k_ + 1, from_2, out, t13, t14, t15 => impl_unify_l0_b N (impl_unify_l0 N k_) from_2 out t13 t14 t15
def impl_unify_b (impl_unify_l0S : I0 -> I0 -> I0 -> Int -> Int -> Option (List Int × Bool)) (values : I0) (terms : I0) (from_ : I0) : Option (List Int × Bool) :=
 (slices_Clone_Lint_int N values).bind fun r =>
 impl_unify_l0S from_ r terms (terms.length : Int) 0
def impl_unify (values : I0) (terms : I0) (from_ : I0) : Option (List Int × Bool) := impl_unify_b N (impl_unify_l0 N N) values terms from_
def impl_FindEmbeddings_c1_l0_b (Rf : I0 -> I0 -> Q0 -> (List (List Int × List Int)) -> D0 -> Q0 -> D0 -> Option (List (List Int × List Int))) (rec_ : I0 -> I0 -> (List (List Int × List Int)) -> Q0 -> D0 -> Int -> I0 -> A0 -> Int -> Int -> Option (List (List Int × List Int))) (values2 : I0) (facts2 : I0) (t3 : List (List Int × List Int)) (t5c : Q0) (t5c2 : D0) (atom : Int) (atom2 : I0) (t34 : A0) (t35 : Int) (t36 : Int) : Option (List (List Int × List Int)) :=
 bif decide (t36 < t35) then
  grd (inb t36 t34) <|
  bif (((at_ (0, []) t34 t36).1) != atom) then
   rec_ values2 facts2 t3 t5c t5c2 atom atom2 t34 t35 (w64 (t36 + 1))
  else
  (impl_unify N values2 atom2 ((at_ (0, []) t34 t36).2)).bind fun p_r3 =>
  bif p_r3.2 then
   (slices_Clone_Lint_int N facts2).bind fun r5 =>
   grd (appOk r5 [t36] 8) <|
   (Rf p_r3.1 (r5 ++ [t36]) t5c t3 t5c2 t5c t5c2).bind fun m =>
   rec_ values2 facts2 m t5c t5c2 atom atom2 t34 t35 (w64 (t36 + 1))
  else
  rec_ values2 facts2 t3 t5c t5c2 atom atom2 t34 t35 (w64 (t36 + 1))
 else
 some t3
def impl_FindEmbeddings_c1_l0 (N : Nat) (Rf : I0 -> I0 -> Q0 -> (List (List Int × List Int)) -> D0 -> Q0 -> D0 -> Option (List (List Int × List Int))) : Nat -> I0 -> I0 -> (List (List Int × List Int)) -> Q0 -> D0 -> Int -> I0 -> A0 -> Int -> Int -> Option (List (List Int × List Int))
 | 0, _, _, _, _, _, _, _, _, _, _ => none
 | k_ + 1, values2, facts2, t3, t5c, t5c2, atom, atom2, t34, t35, t36 => impl_FindEmbeddings_c1_l0_b N Rf (impl_FindEmbeddings_c1_l0 N Rf k_) values2 facts2 t3 t5c t5c2 atom atom2 t34 t35 t36
def impl_FindEmbeddings_c1_b (Rf : I0 -> I0 -> Q0 -> (List (List Int × List Int)) -> D0 -> Q0 -> D0 -> Option (List (List Int × List Int))) (impl_FindEmbeddings_c1_l0S : I0 -> I0 -> (List (List Int × List Int)) -> Q0 -> D0 -> Int -> I0 -> A0 -> Int -> Int -> Option (List (List Int × List Int))) (values : I0) (facts : I0) (c2 : Q0) (c3 : List (List Int × List Int)) (c4 : D0) (sc2 : Q0) (sc4 : D0) : Option (List (List Int × List Int)) :=
 bif ((facts.length : Int) == (c2.2.1.length : Int)) then
  (slices_Clone_Lint_int N values).bind fun r =>
  (slices_Clone_Lint_int N facts).bind fun r2 =>
  grd (appOk c3 [(r, r2)] 48) <|
  some (c3 ++ [(r, r2)])
 else
 grd (inb (facts.length : Int) c2.2.1) <|
 impl_FindEmbeddings_c1_l0S values facts c3 sc2 sc4 ((at_ (0, []) c2.2.1 (facts.length : Int)).1) ((at_ (0, []) c2.2.1 (facts.length : Int)).2) c4.2 (c4.2.length : Int) 0
def impl_FindEmbeddings_c1_r (N : Nat) : Nat -> I0 -> I0 -> Q0 -> (List (List Int × List Int)) -> D0 -> Q0 -> D0 -> Option (List (List Int × List Int))
 | 0, _, _, _, _, _, _, _ => none
 | k_ + 1, values, facts, c2, c3, c4, sc2, sc4 => impl_FindEmbeddings_c1_b N (impl_FindEmbeddings_c1_r N k_) (impl_FindEmbeddings_c1_l0 N (impl_FindEmbeddings_c1_r N k_) N) values facts c2 c3 c4 sc2 sc4
def impl_FindEmbeddings_c1 (values : I0) (facts : I0) (c2 : Q0) (c3 : List (List Int × List Int)) (c4 : D0) (sc2 : Q0) (sc4 : D0) : Option (List (List Int × List Int)) := impl_FindEmbeddings_c1_r N N values facts c2 c3 c4 sc2 sc4
def impl_FindEmbeddings (db : D0) (query : Q0) : Option (List (List Int × List Int)) :=
 (impl_IsQueryFor N db query).bind fun r =>
 bif (!r) then some []
 else
 (impl_unknown N query.1).bind fun r2 =>
 (impl_FindEmbeddings_c1 N r2 [] query [] db query db).bind fun m =>
 some m
def impl_HoldsIn (db : D0) (indices : I0) (query : Q0) : Option (Bool) :=
 (impl_SelectFacts N db indices).bind fun p_r =>
 bif p_r.2 then
  (impl_FindEmbeddings N p_r.1 query).bind fun r3 =>
  some (decide ((r3.length : Int) > 0))
 else
 some false
def impl_SubsetCounts_l0_b (rec_ : R0 -> A0 -> Int -> A0 -> I0 -> Int -> L0 -> L0 -> Int -> Int -> Option (Int × Int)) (db2 : R0) (db3 : A0) (query2 : Int) (query3 : A0) (query4 : I0) (count : Int) (sets : L0) (t15 : L0) (t16 : Int) (t17 : Int) : Option (Int × Int) :=
 bif decide (t17 < t16) then
  grd (inb t17 t15) <|
  (impl_IsQueryFor N (db2, db3) (query2, query3, query4)).bind fun r2 =>
  bif r2 then
   (impl_HoldsIn N (db2, db3) (at_ [] t15 t17) (query2, query3, query4)).bind fun r3 =>
   bif r3 then
    rec_ db2 db3 query2 query3 query4 (w64 (count + 1)) sets t15 t16 (w64 (t17 + 1))
   else
   rec_ db2 db3 query2 query3 query4 count sets t15 t16 (w64 (t17 + 1))
  else
  rec_ db2 db3 query2 query3 query4 count sets t15 t16 (w64 (t17 + 1))
 else
 some (count, (sets.length : Int))
def impl_SubsetCounts_l0 (N : Nat) : Nat -> R0 -> A0 -> Int -> A0 -> I0 -> Int -> L0 -> L0 -> Int -> Int -> Option (Int × Int)
 | 0, _, _, _, _, _, _, _, _, _, _ => none
 | k_ + 1, db2, db3, query2, query3, query4, count, sets, t15, t16, t17 => impl_SubsetCounts_l0_b N (impl_SubsetCounts_l0 N k_) db2 db3 query2 query3 query4 count sets t15 t16 t17
def impl_SubsetCounts_b (impl_SubsetCounts_l0S : R0 -> A0 -> Int -> A0 -> I0 -> Int -> L0 -> L0 -> Int -> Int -> Option (Int × Int)) (db : D0) (constraints : List C0) (query : Q0) : Option (Int × Int) :=
 (impl_SubsetRepairs N db constraints).bind fun r =>
 impl_SubsetCounts_l0S db.1 db.2 query.1 query.2.1 query.2.2 0 r r (r.length : Int) 0
def impl_SubsetCounts (db : D0) (constraints : List C0) (query : Q0) : Option (Int × Int) := impl_SubsetCounts_b N (impl_SubsetCounts_l0 N N) db constraints query
def laws_eqRelation (N : Nat) (a : ByteArray × Int × Int) (b : ByteArray × Int × Int) : Option (Bool) :=
 bif (!seq a.1 b.1) then some false
 else
 bif (a.2.1 != b.2.1) then some false
 else
 bif (a.2.2 != b.2.2) then some false
 else
 some true
def laws_eqRelationS_l0_b (rec_ : R0 -> R0 -> Int -> Option (Bool)) (a2 : R0) (b2 : R0) (i : Int) : Option (Bool) :=
 bif decide (i < (a2.length : Int)) then
  grd (inb i a2) <|
  grd (inb i b2) <|
  (laws_eqRelation N ((at_ (⟨#[]⟩, (0, 0)) a2 i).1, ((at_ (⟨#[]⟩, (0, 0)) a2 i).2)) ((at_ (⟨#[]⟩, (0, 0)) b2 i).1, ((at_ (⟨#[]⟩, (0, 0)) b2 i).2))).bind fun r =>
  bif (!r) then some false
  else
  rec_ a2 b2 (w64 (i + 1))
 else
 some true
def laws_eqRelationS_l0 (N : Nat) : Nat -> R0 -> R0 -> Int -> Option (Bool)
 | 0, _, _, _ => none
 | k_ + 1, a2, b2, i => laws_eqRelationS_l0_b N (laws_eqRelationS_l0 N k_) a2 b2 i
def laws_eqRelationS_b (N : Nat) (laws_eqRelationS_l0S : R0 -> R0 -> Int -> Option (Bool)) (a : R0) (b : R0) : Option (Bool) :=
 bif ((a.length : Int) != (b.length : Int)) then some false
 else
 laws_eqRelationS_l0S a b 0
def laws_eqRelationS (a : R0) (b : R0) : Option (Bool) := laws_eqRelationS_b N (laws_eqRelationS_l0 N N) a b
def laws_eqIntS_l0_b (N : Nat) (rec_ : I0 -> I0 -> Int -> Option (Bool)) (a2 : I0) (b2 : I0) (i : Int) : Option (Bool) :=
 bif decide (i < (a2.length : Int)) then
  grd (inb i a2) <|
  grd (inb i b2) <|
  bif ((at_ 0 a2 i) != (at_ 0 b2 i)) then some false
  else
  rec_ a2 b2 (w64 (i + 1))
 else
 some true
def laws_eqIntS_l0 (N : Nat) : Nat -> I0 -> I0 -> Int -> Option (Bool)
 | 0, _, _, _ => none
 | k_ + 1, a2, b2, i => laws_eqIntS_l0_b N (laws_eqIntS_l0 N k_) a2 b2 i
def laws_eqIntS_b (N : Nat) (laws_eqIntS_l0S : I0 -> I0 -> Int -> Option (Bool)) (a : I0) (b : I0) : Option (Bool) :=
 bif ((a.length : Int) != (b.length : Int)) then some false
 else
 laws_eqIntS_l0S a b 0
def laws_eqIntS (a : I0) (b : I0) : Option (Bool) := laws_eqIntS_b N (laws_eqIntS_l0 N N) a b
def laws_eqFact (a : Int × List Int) (b : Int × List Int) : Option (Bool) :=
 bif (a.1 != b.1) then some false
 else
 (laws_eqIntS N a.2 b.2).bind fun r =>
 bif (!r) then some false
 else
 some true
def laws_eqFactS_l0_b (rec_ : A0 -> A0 -> Int -> Option (Bool)) (a2 : A0) (b2 : A0) (i : Int) : Option (Bool) :=
 bif decide (i < (a2.length : Int)) then
  grd (inb i a2) <|
  grd (inb i b2) <|
  (laws_eqFact N (at_ (0, []) a2 i) (at_ (0, []) b2 i)).bind fun r =>
  bif (!r) then some false
  else
  rec_ a2 b2 (w64 (i + 1))
 else
 some true
def laws_eqFactS_l0 (N : Nat) : Nat -> A0 -> A0 -> Int -> Option (Bool)
 | 0, _, _, _ => none
 | k_ + 1, a2, b2, i => laws_eqFactS_l0_b N (laws_eqFactS_l0 N k_) a2 b2 i
def laws_eqFactS_b (N : Nat) (laws_eqFactS_l0S : A0 -> A0 -> Int -> Option (Bool)) (a : A0) (b : A0) : Option (Bool) :=
 bif ((a.length : Int) != (b.length : Int)) then some false
 else
 laws_eqFactS_l0S a b 0
def laws_eqFactS (a : A0) (b : A0) : Option (Bool) := laws_eqFactS_b N (laws_eqFactS_l0 N N) a b
def laws_eqDatabase (a : D0) (b : D0) : Option (Bool) :=
 (laws_eqRelationS N a.1 b.1).bind fun r =>
 bif (!r) then some false
 else
 (laws_eqFactS N a.2 b.2).bind fun r2 =>
 bif (!r2) then some false
 else
 some true
def laws_eqDenialConstraint (N : Nat) (a : C0) (b : C0) : Option (Bool) :=
 bif (a.1 != b.1) then some false
 else
 bif (a.2.1 != b.2.1) then some false
 else
 bif (a.2.2.1 != b.2.2.1) then some false
 else
 bif (a.2.2.2.1 != b.2.2.2.1) then some false
 else
 bif (a.2.2.2.2.1 != b.2.2.2.2.1) then some false
 else
 bif (a.2.2.2.2.2.1 != b.2.2.2.2.2.1) then some false
 else
 bif (a.2.2.2.2.2.2 != b.2.2.2.2.2.2) then some false
 else
 some true
def laws_eqDenialConstraintS_l0_b (rec_ : (List C0) -> (List C0) -> Int -> Option (Bool)) (a2 : List C0) (b2 : List C0) (i : Int) : Option (Bool) :=
 bif decide (i < (a2.length : Int)) then
  grd (inb i a2) <|
  grd (inb i b2) <|
  (laws_eqDenialConstraint N ((at_ (0, (0, (0, (0, (0, (0, 0)))))) a2 i).1, ((at_ (0, (0, (0, (0, (0, (0, 0)))))) a2 i).2).1, (((at_ (0, (0, (0, (0, (0, (0, 0)))))) a2 i).2).2).1, ((((at_ (0, (0, (0, (0, (0, (0, 0)))))) a2 i).2).2).2).1, (((((at_ (0, (0, (0, (0, (0, (0, 0)))))) a2 i).2).2).2).2).1, ((((((at_ (0, (0, (0, (0, (0, (0, 0)))))) a2 i).2).2).2).2).2)) ((at_ (0, (0, (0, (0, (0, (0, 0)))))) b2 i).1, ((at_ (0, (0, (0, (0, (0, (0, 0)))))) b2 i).2).1, (((at_ (0, (0, (0, (0, (0, (0, 0)))))) b2 i).2).2).1, ((((at_ (0, (0, (0, (0, (0, (0, 0)))))) b2 i).2).2).2).1, (((((at_ (0, (0, (0, (0, (0, (0, 0)))))) b2 i).2).2).2).2).1, ((((((at_ (0, (0, (0, (0, (0, (0, 0)))))) b2 i).2).2).2).2).2))).bind fun r =>
  bif (!r) then some false
  else
  rec_ a2 b2 (w64 (i + 1))
 else
 some true
def laws_eqDenialConstraintS_l0 (N : Nat) : Nat -> (List C0) -> (List C0) -> Int -> Option (Bool)
 | 0, _, _, _ => none
 | k_ + 1, a2, b2, i => laws_eqDenialConstraintS_l0_b N (laws_eqDenialConstraintS_l0 N k_) a2 b2 i
def laws_eqDenialConstraintS_b (N : Nat) (laws_eqDenialConstraintS_l0S : (List C0) -> (List C0) -> Int -> Option (Bool)) (a : List C0) (b : List C0) : Option (Bool) :=
 bif ((a.length : Int) != (b.length : Int)) then some false
 else
 laws_eqDenialConstraintS_l0S a b 0
def laws_eqDenialConstraintS (a : List C0) (b : List C0) : Option (Bool) := laws_eqDenialConstraintS_b N (laws_eqDenialConstraintS_l0 N N) a b
def laws_eqAtom (a : Int × List Int) (b : Int × List Int) : Option (Bool) :=
 bif (a.1 != b.1) then some false
 else
 (laws_eqIntS N a.2 b.2).bind fun r =>
 bif (!r) then some false
 else
 some true
def laws_eqAtomS_l0_b (rec_ : A0 -> A0 -> Int -> Option (Bool)) (a2 : A0) (b2 : A0) (i : Int) : Option (Bool) :=
 bif decide (i < (a2.length : Int)) then
  grd (inb i a2) <|
  grd (inb i b2) <|
  (laws_eqAtom N (at_ (0, []) a2 i) (at_ (0, []) b2 i)).bind fun r =>
  bif (!r) then some false
  else
  rec_ a2 b2 (w64 (i + 1))
 else
 some true
def laws_eqAtomS_l0 (N : Nat) : Nat -> A0 -> A0 -> Int -> Option (Bool)
 | 0, _, _, _ => none
 | k_ + 1, a2, b2, i => laws_eqAtomS_l0_b N (laws_eqAtomS_l0 N k_) a2 b2 i
def laws_eqAtomS_b (N : Nat) (laws_eqAtomS_l0S : A0 -> A0 -> Int -> Option (Bool)) (a : A0) (b : A0) : Option (Bool) :=
 bif ((a.length : Int) != (b.length : Int)) then some false
 else
 laws_eqAtomS_l0S a b 0
def laws_eqAtomS (a : A0) (b : A0) : Option (Bool) := laws_eqAtomS_b N (laws_eqAtomS_l0 N N) a b
def laws_eqQuery (a : Q0) (b : Q0) : Option (Bool) :=
 bif (a.1 != b.1) then some false
 else
 (laws_eqAtomS N a.2.1 b.2.1).bind fun r =>
 bif (!r) then some false
 else
 (laws_eqIntS N a.2.2 b.2.2).bind fun r2 =>
 bif (!r2) then some false
 else
 some true
def laws_FnExactSubsetCounts (aDb : D0) (aConstraints : List C0) (aQuery : Q0) : Option (Bool) :=
 (laws_szDatabase N aDb 1048576).bind fun r =>
 bif decide (r < 0) then some true
 else
 (laws_szDenialConstraintS N aConstraints r).bind fun r2 =>
 bif decide (r2 < 0) then some true
 else
 (laws_szQuery N aQuery r2).bind fun r3 =>
 bif decide (r3 < 0) then some true
 else
 (laws_toDatabase N aDb).bind fun r4 =>
 (laws_toDenialConstraintS N aConstraints).bind fun r5 =>
 (laws_toQuery N aQuery).bind fun r6 =>
 (spec_SubsetCounts N r4 r5 r6).bind fun p_r7 =>
 (laws_toDatabase N aDb).bind fun r9 =>
 (laws_toDenialConstraintS N aConstraints).bind fun r10 =>
 (laws_toQuery N aQuery).bind fun r11 =>
 (impl_SubsetCounts N r9 r10 r11).bind fun p_r12 =>
 bif (p_r12.1 != p_r7.1) then some false
 else
 bif (p_r12.2 != p_r7.2) then some false
 else
 (laws_toDatabase N aDb).bind fun r14 =>
 (laws_eqDatabase N r9 r14).bind fun r15 =>
 bif (!r15) then some false
 else
 (laws_toDenialConstraintS N aConstraints).bind fun r16 =>
 (laws_eqDenialConstraintS N r10 r16).bind fun r17 =>
 bif (!r17) then some false
 else
 (laws_toQuery N aQuery).bind fun r18 =>
 (laws_eqQuery N r11 r18).bind fun r19 =>
 bif (!r19) then some false
 else
 some true
end Go.PL
