/- The functions read plainly, and the plain law of them. Conditions: those that stand in each theorem. -/
import GoSem.Core.View
import GoSem.Op.String

/- Words of the plain reading. Conditions: none (definitions alone). -/
namespace Go.PL

def w64 (x : Int) : Int := IntKind.i64.wrap x
def w (k : IntKind) (x : Int) : Int := k.wrap x
def grd {α : Type} (c : Bool) (x : Option α) : Option α := bif c then x else none
def grz {α : Type} (b : Int) (x : Option α) : Option α := bif decide (b = 0) then none else x
def letv {α β : Type} (v : α) (k : α → β) : β := k v
def at_ {α : Type} (d : α) (xs : List α) (i : Int) : α := xs.getD i.toNat d
def inb {α : Type} (i : Int) (xs : List α) : Bool := decide (0 ≤ i) && decide (i < (xs.length : Int))
/-- A row that grew is stored where it stood. -/
def growOk {α : Type} (i' i : Int) (xs : List α) : Bool := decide (i' = i) && (decide (0 ≤ i') && decide (i' < (xs.length : Int)))
def appOk {α : Type} (s x : List α) (b : Nat) : Bool := decide ((s.length + x.length) * b ≤ 140737488355328)
def makeOk (n : Int) (b : Nat) : Bool := decide (n = n) && (decide (0 ≤ n) && decide (n * b ≤ 140737488355328))
def byteAt (s : ByteArray) (n : Int) : Option UInt8 := if 0 ≤ n then s[n.toNat]? else none
def catOk (a b : ByteArray) : Bool := decide (a.size + b.size ≤ 140737488355328)
def seq (a b : ByteArray) : Bool := a.toList == b.toList
def slt (a b : ByteArray) : Bool := Op.bytesLess a.toList b.toList
def subOk (lo hi : Int) (n : Nat) : Bool := decide (0 ≤ lo) && (decide (lo ≤ hi) && decide (hi ≤ (n : Int)))
def sub (s : ByteArray) (lo hi : Int) : ByteArray := s.extract lo.toNat hi.toNat
def ofBytes (x : List Int) : ByteArray := ⟨(x.map fun n => UInt8.ofNat n.toNat).toArray⟩
def bits (op : BinOp) (k : IntKind) (a b : Int) : Int := match op with
 | .and => k.wrap ((BitVec.ofInt k.bits a &&& BitVec.ofInt k.bits b).toNat : Int)
 | .xor => k.wrap ((BitVec.ofInt k.bits a ^^^ BitVec.ofInt k.bits b).toNat : Int)
 | .or => k.wrap ((BitVec.ofInt k.bits a ||| BitVec.ofInt k.bits b).toNat : Int)
 | .shl => k.wrap (a * 2 ^ (min b.toNat k.bits))
 | .shr => a.fdiv (2 ^ (min b.toNat k.bits))
 | _ => 0
def imax (a b : Int) : Int := if b > a then b else a
def imin (a b : Int) : Int := if b < a then b else a
end Go.PL

/- The functions, read plainly. Conditions: none (definitions alone). -/
namespace Go.PL
set_option linter.unusedVariables false

def slices_Clone_LLint_Lint (N : Nat) (s : List (List Int)) : Option (List (List Int)) := grd (decide (s.length * 24 ≤ 140737488355328)) (some s)
def slices_Clone_Lint_int (N : Nat) (s : List Int) : Option (List Int) := grd (decide (s.length * 8 ≤ 140737488355328)) (some s)
def slices_Delete_Lint_int (N : Nat) (s : List Int) (i : Int) (j : Int) : Option (List Int) := grd (decide (0 < s.length) && (decide (0 ≤ i) && (decide (i ≤ j) && decide (j ≤ (s.length : Int))))) (some (s.take i.toNat ++ s.drop j.toNat))
def laws_szIntS (N : Nat) (a : List Int) (left_ : Int) : Option (Int) :=
 bif decide ((w64 (left_ - (a.length : Int))) < 0) then some (-1)
 else
 some (w64 (left_ - (a.length : Int)))
def laws_szIntSS_l0_b (N : Nat) (rec_ : (List (List Int)) → Int → Int → Option (Int)) (a2 : List (List Int)) (left_2 : Int) (i : Int) : Option (Int) :=
 bif decide (i < (a2.length : Int)) then
  grd (inb i a2) <|
  (laws_szIntS N (at_ [] a2 i) left_2).bind fun r =>
  bif decide (r < 0) then some (-1)
  else
  rec_ a2 r (w64 (i + 1))
 else
 some left_2
def laws_szIntSS_l0 (N : Nat) : Nat → (List (List Int)) → Int → Int → Option (Int)
 | 0, _, _, _ => none
 | k_ + 1, a2, left_2, i => laws_szIntSS_l0_b N (laws_szIntSS_l0 N k_) a2 left_2 i
def laws_szIntSS_b (N : Nat) (laws_szIntSS_l0S : (List (List Int)) → Int → Int → Option (Int)) (a : List (List Int)) (left_ : Int) : Option (Int) :=
 bif decide ((w64 (left_ - (a.length : Int))) < 0) then some (-1)
 else
 laws_szIntSS_l0S a (w64 (left_ - (a.length : Int))) 0
def laws_szIntSS (N : Nat) (a : List (List Int)) (left_ : Int) : Option (Int) := laws_szIntSS_b N (laws_szIntSS_l0 N N) a left_
def laws_toIntS_l0_b (N : Nat) (rec_ : (List Int) → (List Int) → Int → Option (List Int)) (a2 : List Int) (out : List Int) (i : Int) : Option (List Int) :=
 bif decide (i < (a2.length : Int)) then
  grd (inb i a2) <|
  grd (inb i out) <|
  grd (inb i out) <|
  letv (out.set i.toNat (at_ 0 a2 i)) fun u =>
  rec_ a2 u (w64 (i + 1))
 else
 some out
def laws_toIntS_l0 (N : Nat) : Nat → (List Int) → (List Int) → Int → Option (List Int)
 | 0, _, _, _ => none
 | k_ + 1, a2, out, i => laws_toIntS_l0_b N (laws_toIntS_l0 N k_) a2 out i
def laws_toIntS_b (N : Nat) (laws_toIntS_l0S : (List Int) → (List Int) → Int → Option (List Int)) (a : List Int) : Option (List Int) :=
 grd (makeOk (a.length : Int) 8) <|
 laws_toIntS_l0S a (List.replicate (a.length : Int).toNat 0) 0
def laws_toIntS (N : Nat) (a : List Int) : Option (List Int) := laws_toIntS_b N (laws_toIntS_l0 N N) a
def laws_toIntSS_l0_b (N : Nat) (rec_ : (List (List Int)) → (List (List Int)) → Int → Option (List (List Int))) (a2 : List (List Int)) (out : List (List Int)) (i : Int) : Option (List (List Int)) :=
 bif decide (i < (a2.length : Int)) then
  grd (inb i a2) <|
  (laws_toIntS N (at_ [] a2 i)).bind fun r =>
  grd (inb i out) <|
  grd (inb i out) <|
  letv (out.set i.toNat r) fun u =>
  rec_ a2 u (w64 (i + 1))
 else
 some out
def laws_toIntSS_l0 (N : Nat) : Nat → (List (List Int)) → (List (List Int)) → Int → Option (List (List Int))
 | 0, _, _, _ => none
 | k_ + 1, a2, out, i => laws_toIntSS_l0_b N (laws_toIntSS_l0 N k_) a2 out i
def laws_toIntSS_b (N : Nat) (laws_toIntSS_l0S : (List (List Int)) → (List (List Int)) → Int → Option (List (List Int))) (a : List (List Int)) : Option (List (List Int)) :=
 grd (makeOk (a.length : Int) 24) <|
 laws_toIntSS_l0S a (List.replicate (a.length : Int).toNat []) 0
def laws_toIntSS (N : Nat) (a : List (List Int)) : Option (List (List Int)) := laws_toIntSS_b N (laws_toIntSS_l0 N N) a
def spec_l1In (N : Nat) (x : Int) (low : Int) (high : Int) : Option (Bool) :=
 bif decide (x ≥ low) then some (decide (x ≤ high))
 else
 some false
def spec_l20Clause_l1_b (N : Nat) (spec_l20Clause_l0R : Int → (List Int) → Int → Option (Bool)) (rec_ : Int → (List Int) → Int → Int → Option (Bool)) (n3 : Int) (c3 : List Int) (i2 : Int) (k : Int) : Option (Bool) :=
 bif decide (k < i2) then
  grd (inb k c3) <|
  grd (inb i2 c3) <|
  bif ((at_ 0 c3 k) == (at_ 0 c3 i2)) then some false
  else
  grd (inb k c3) <|
  grd (inb i2 c3) <|
  bif ((at_ 0 c3 k) == (w64 (0 - (at_ 0 c3 i2)))) then some false
  else
  rec_ n3 c3 i2 (w64 (k + 1))
 else
 spec_l20Clause_l0R n3 c3 (w64 (i2 + 1))
def spec_l20Clause_l1 (spec_l20Clause_l0R : Int → (List Int) → Int → Option (Bool)) (N : Nat) : Nat → Int → (List Int) → Int → Int → Option (Bool)
 | 0, _, _, _, _ => none
 | k_ + 1, n3, c3, i2, k => spec_l20Clause_l1_b N spec_l20Clause_l0R (spec_l20Clause_l1 spec_l20Clause_l0R N k_) n3 c3 i2 k
def spec_l20Clause_l0_b (N : Nat) (spec_l20Clause_l1S : Int → (List Int) → Int → Int → Option (Bool)) (rec_ : Int → (List Int) → Int → Option (Bool)) (n2 : Int) (c2 : List Int) (i : Int) : Option (Bool) :=
 bif decide (i < (c2.length : Int)) then
  grd (inb i c2) <|
  grd (inb i c2) <|
  bif decide ((at_ 0 c2 i) < 0) then
   grd (inb i c2) <|
   bif decide ((at_ 0 c2 i) ≥ (w64 (0 - n2))) then
    grd (inb i c2) <|
    (spec_l1In N (w64 (0 - (at_ 0 c2 i))) 1 n2).bind fun r =>
    bif (!r) then some false
    else
    spec_l20Clause_l1S n2 c2 i 0
   else
   (spec_l1In N (imax (at_ 0 c2 i) 0) 1 n2).bind fun r2 =>
   bif (!r2) then some false
   else
   spec_l20Clause_l1S n2 c2 i 0
  else
  (spec_l1In N (imax (at_ 0 c2 i) 0) 1 n2).bind fun r3 =>
  bif (!r3) then some false
  else
  spec_l20Clause_l1S n2 c2 i 0
 else
 some true
def spec_l20Clause_l0 (N : Nat) : Nat → Int → (List Int) → Int → Option (Bool)
 | 0, _, _, _ => none
 | k_ + 1, n2, c2, i => spec_l20Clause_l0_b N (spec_l20Clause_l1 (spec_l20Clause_l0 N k_) N N) (spec_l20Clause_l0 N k_) n2 c2 i
def spec_l20Clause_b (N : Nat) (spec_l20Clause_l0S : Int → (List Int) → Int → Option (Bool)) (n : Int) (c : List Int) : Option (Bool) :=
 spec_l20Clause_l0S n c 0
def spec_l20Clause (N : Nat) (n : Int) (c : List Int) : Option (Bool) := spec_l20Clause_b N (spec_l20Clause_l0 N N) n c
def spec_AreValidClauses_l0_b (N : Nat) (rec_ : Int → (List (List Int)) → Int → Option (Bool)) (n2 : Int) (l2 : List (List Int)) (i : Int) : Option (Bool) :=
 bif decide (i < (l2.length : Int)) then
  grd (inb i l2) <|
  (spec_l20Clause N n2 (at_ [] l2 i)).bind fun r =>
  bif (!r) then some false
  else
  rec_ n2 l2 (w64 (i + 1))
 else
 (spec_l1In N n2 0 14).bind fun r2 =>
 bif r2 then some (decide ((l2.length : Int) ≤ 400))
 else
 some false
def spec_AreValidClauses_l0 (N : Nat) : Nat → Int → (List (List Int)) → Int → Option (Bool)
 | 0, _, _, _ => none
 | k_ + 1, n2, l2, i => spec_AreValidClauses_l0_b N (spec_AreValidClauses_l0 N k_) n2 l2 i
def spec_AreValidClauses_b (N : Nat) (spec_AreValidClauses_l0S : Int → (List (List Int)) → Int → Option (Bool)) (n : Int) (l : List (List Int)) : Option (Bool) :=
 spec_AreValidClauses_l0S n l 0
def spec_AreValidClauses (N : Nat) (n : Int) (l : List (List Int)) : Option (Bool) := spec_AreValidClauses_b N (spec_AreValidClauses_l0 N N) n l
def spec_NegateLiterals_l0_b (N : Nat) (rec_ : (List Int) → (List Int) → Int → Option (List Int)) (l2 : List Int) (out : List Int) (i : Int) : Option (List Int) :=
 bif decide (i < (l2.length : Int)) then
  grd (inb i l2) <|
  grd (appOk out [(w64 (0 - (at_ 0 l2 i)))] 8) <|
  rec_ l2 (out ++ [(w64 (0 - (at_ 0 l2 i)))]) (w64 (i + 1))
 else
 some out
def spec_NegateLiterals_l0 (N : Nat) : Nat → (List Int) → (List Int) → Int → Option (List Int)
 | 0, _, _, _ => none
 | k_ + 1, l2, out, i => spec_NegateLiterals_l0_b N (spec_NegateLiterals_l0 N k_) l2 out i
def spec_NegateLiterals_b (N : Nat) (spec_NegateLiterals_l0S : (List Int) → (List Int) → Int → Option (List Int)) (l : List Int) : Option (List Int) :=
 spec_NegateLiterals_l0S l [] 0
def spec_NegateLiterals (N : Nat) (l : List Int) : Option (List Int) := spec_NegateLiterals_b N (spec_NegateLiterals_l0 N N) l
def spec_l7Has_l0_b (N : Nat) (rec_ : (List Int) → Int → Int → Option (Bool)) (l2 : List Int) (x2 : Int) (i : Int) : Option (Bool) :=
 bif decide (i < (l2.length : Int)) then
  grd (inb i l2) <|
  bif ((at_ 0 l2 i) == x2) then some true
  else
  rec_ l2 x2 (w64 (i + 1))
 else
 some false
def spec_l7Has_l0 (N : Nat) : Nat → (List Int) → Int → Int → Option (Bool)
 | 0, _, _, _ => none
 | k_ + 1, l2, x2, i => spec_l7Has_l0_b N (spec_l7Has_l0 N k_) l2 x2 i
def spec_l7Has_b (N : Nat) (spec_l7Has_l0S : (List Int) → Int → Int → Option (Bool)) (l : List Int) (x : Int) : Option (Bool) :=
 spec_l7Has_l0S l x 0
def spec_l7Has (N : Nat) (l : List Int) (x : Int) : Option (Bool) := spec_l7Has_b N (spec_l7Has_l0 N N) l x
def spec_l21Left_l0_b (N : Nat) (rec_ : (List Int) → (List Int) → (List Int) → Int → Option (List Int × Bool)) (c2 : List Int) (set2 : List Int) (out : List Int) (i : Int) : Option (List Int × Bool) :=
 bif decide (i < (c2.length : Int)) then
  grd (inb i c2) <|
  (spec_l7Has N set2 (at_ 0 c2 i)).bind fun r =>
  bif r then some (out, true)
  else
  grd (inb i c2) <|
  (spec_l7Has N set2 (w64 (0 - (at_ 0 c2 i)))).bind fun r2 =>
  bif (!r2) then
   grd (inb i c2) <|
   grd (appOk out [(at_ 0 c2 i)] 8) <|
   rec_ c2 set2 (out ++ [(at_ 0 c2 i)]) (w64 (i + 1))
  else
  rec_ c2 set2 out (w64 (i + 1))
 else
 some (out, false)
def spec_l21Left_l0 (N : Nat) : Nat → (List Int) → (List Int) → (List Int) → Int → Option (List Int × Bool)
 | 0, _, _, _, _ => none
 | k_ + 1, c2, set2, out, i => spec_l21Left_l0_b N (spec_l21Left_l0 N k_) c2 set2 out i
def spec_l21Left_b (N : Nat) (spec_l21Left_l0S : (List Int) → (List Int) → (List Int) → Int → Option (List Int × Bool)) (c : List Int) (set : List Int) : Option (List Int × Bool) :=
 spec_l21Left_l0S c set [] 0
def spec_l21Left (N : Nat) (c : List Int) (set : List Int) : Option (List Int × Bool) := spec_l21Left_b N (spec_l21Left_l0 N N) c set
def spec_l21Units_l1_b (N : Nat) (spec_l21Units_l0R : (List (List Int)) → (List Int) → Bool → Option (List Int × Bool)) (rec_ : (List (List Int)) → (List Int) → Bool → Int → Option (List Int × Bool)) (l3 : List (List Int)) (out2 : List Int) (more2 : Bool) (i : Int) : Option (List Int × Bool) :=
 bif decide (i < (l3.length : Int)) then
  bif (!more2) then
   grd (inb i l3) <|
   (spec_l21Left N (at_ [] l3 i) out2).bind fun p_r =>
   bif p_r.2 then rec_ l3 out2 more2 (w64 (i + 1))
   else
   bif ((p_r.1.length : Int) == 0) then some (out2, true)
   else
   bif ((p_r.1.length : Int) == 1) then
    grd (inb 0 p_r.1) <|
    grd (appOk out2 [(at_ 0 p_r.1 0)] 8) <|
    rec_ l3 (out2 ++ [(at_ 0 p_r.1 0)]) true (w64 (i + 1))
   else
   rec_ l3 out2 more2 (w64 (i + 1))
  else
  spec_l21Units_l0R l3 out2 more2
 else
 spec_l21Units_l0R l3 out2 more2
def spec_l21Units_l1 (spec_l21Units_l0R : (List (List Int)) → (List Int) → Bool → Option (List Int × Bool)) (N : Nat) : Nat → (List (List Int)) → (List Int) → Bool → Int → Option (List Int × Bool)
 | 0, _, _, _, _ => none
 | k_ + 1, l3, out2, more2, i => spec_l21Units_l1_b N spec_l21Units_l0R (spec_l21Units_l1 spec_l21Units_l0R N k_) l3 out2 more2 i
def spec_l21Units_l0_b (N : Nat) (spec_l21Units_l1S : (List (List Int)) → (List Int) → Bool → Int → Option (List Int × Bool)) (rec_ : (List (List Int)) → (List Int) → Bool → Option (List Int × Bool)) (l2 : List (List Int)) (out : List Int) (more : Bool) : Option (List Int × Bool) :=
 bif more then spec_l21Units_l1S l2 out false 0
 else
 some (out, false)
def spec_l21Units_l0 (N : Nat) : Nat → (List (List Int)) → (List Int) → Bool → Option (List Int × Bool)
 | 0, _, _, _ => none
 | k_ + 1, l2, out, more => spec_l21Units_l0_b N (spec_l21Units_l1 (spec_l21Units_l0 N k_) N N) (spec_l21Units_l0 N k_) l2 out more
def spec_l21Units_b (N : Nat) (spec_l21Units_l0S : (List (List Int)) → (List Int) → Bool → Option (List Int × Bool)) (l : List (List Int)) (set : List Int) : Option (List Int × Bool) :=
 grd (appOk [] set 8) <|
 spec_l21Units_l0S l set true
def spec_l21Units (N : Nat) (l : List (List Int)) (set : List Int) : Option (List Int × Bool) := spec_l21Units_b N (spec_l21Units_l0 N N) l set
def spec_IsValidProof_l0_b (N : Nat) (rec_ : Int → (List (List Int)) → (List (List Int)) → Int → Option (Bool)) (n2 : Int) (proof2 : List (List Int)) (x : List (List Int)) (i : Int) : Option (Bool) :=
 bif decide (i < (proof2.length : Int)) then
  grd (inb i proof2) <|
  (spec_l20Clause N n2 (at_ [] proof2 i)).bind fun r2 =>
  bif (!r2) then some false
  else
  grd (inb i proof2) <|
  (spec_NegateLiterals N (at_ [] proof2 i)).bind fun r3 =>
  (spec_l21Units N x r3).bind fun p_r4 =>
  bif (!p_r4.2) then some false
  else
  grd (inb i proof2) <|
  grd (appOk x [(at_ [] proof2 i)] 24) <|
  rec_ n2 proof2 (x ++ [(at_ [] proof2 i)]) (w64 (i + 1))
 else
 some true
def spec_IsValidProof_l0 (N : Nat) : Nat → Int → (List (List Int)) → (List (List Int)) → Int → Option (Bool)
 | 0, _, _, _, _ => none
 | k_ + 1, n2, proof2, x, i => spec_IsValidProof_l0_b N (spec_IsValidProof_l0 N k_) n2 proof2 x i
def spec_IsValidProof_b (N : Nat) (spec_IsValidProof_l0S : Int → (List (List Int)) → (List (List Int)) → Int → Option (Bool)) (n : Int) (l : List (List Int)) (proof : List (List Int)) : Option (Bool) :=
 (spec_AreValidClauses N n l).bind fun r =>
 bif (!r) then some false
 else
 bif ((proof.length : Int) == 0) then some false
 else
 grd (inb (w64 ((proof.length : Int) - 1)) proof) <|
 bif decide (((at_ [] proof (w64 ((proof.length : Int) - 1))).length : Int) > 0) then some false
 else
 grd (appOk [] l 24) <|
 spec_IsValidProof_l0S n proof l 0
def spec_IsValidProof (N : Nat) (n : Int) (l : List (List Int)) (proof : List (List Int)) : Option (Bool) := spec_IsValidProof_b N (spec_IsValidProof_l0 N N) n l proof
def spec_SelectClauses_l0_b (N : Nat) (rec_ : (List (List Int)) → (List Int) → (List (List Int)) → Int → Option (List (List Int))) (l2 : List (List Int)) (at_2 : List Int) (out : List (List Int)) (i : Int) : Option (List (List Int)) :=
 bif decide (i < (at_2.length : Int)) then
  grd (inb i at_2) <|
  (spec_l1In N (at_ 0 at_2 i) 0 (w64 ((l2.length : Int) - 1))).bind fun r =>
  bif r then
   grd (inb i at_2) <|
   grd (inb (at_ 0 at_2 i) l2) <|
   grd (appOk [] (at_ [] l2 (at_ 0 at_2 i)) 8) <|
   grd (appOk out [(at_ [] l2 (at_ 0 at_2 i))] 24) <|
   rec_ l2 at_2 (out ++ [(at_ [] l2 (at_ 0 at_2 i))]) (w64 (i + 1))
  else
  rec_ l2 at_2 out (w64 (i + 1))
 else
 some out
def spec_SelectClauses_l0 (N : Nat) : Nat → (List (List Int)) → (List Int) → (List (List Int)) → Int → Option (List (List Int))
 | 0, _, _, _, _ => none
 | k_ + 1, l2, at_2, out, i => spec_SelectClauses_l0_b N (spec_SelectClauses_l0 N k_) l2 at_2 out i
def spec_SelectClauses_b (N : Nat) (spec_SelectClauses_l0S : (List (List Int)) → (List Int) → (List (List Int)) → Int → Option (List (List Int))) (l : List (List Int)) (at_ : List Int) : Option (List (List Int)) :=
 spec_SelectClauses_l0S l at_ [] 0
def spec_SelectClauses (N : Nat) (l : List (List Int)) (at_ : List Int) : Option (List (List Int)) := spec_SelectClauses_b N (spec_SelectClauses_l0 N N) l at_
def spec_UnsatCore_l2_b (N : Nat) (spec_UnsatCore_l1R : Int → (List (List Int)) → (List (List Int)) → (List Int) → Int → Option (List Int)) (rec_ : Int → (List (List Int)) → (List (List Int)) → (List Int) → Int → (List Int) → Int → Option (List Int)) (n4 : Int) (l4 : List (List Int)) (proof4 : List (List Int)) (out3 : List Int) (i2 : Int) (x : List Int) (k : Int) : Option (List Int) :=
 bif decide (k < (out3.length : Int)) then
  grd (inb k out3) <|
  bif ((at_ 0 out3 k) != i2) then
   grd (inb k out3) <|
   grd (appOk x [(at_ 0 out3 k)] 8) <|
   rec_ n4 l4 proof4 out3 i2 (x ++ [(at_ 0 out3 k)]) (w64 (k + 1))
  else
  rec_ n4 l4 proof4 out3 i2 x (w64 (k + 1))
 else
 (spec_SelectClauses N l4 x).bind fun r2 =>
 (spec_IsValidProof N n4 r2 proof4).bind fun r3 =>
 bif r3 then spec_UnsatCore_l1R n4 l4 proof4 x (w64 (i2 - 1))
 else
 spec_UnsatCore_l1R n4 l4 proof4 out3 (w64 (i2 - 1))
def spec_UnsatCore_l2 (spec_UnsatCore_l1R : Int → (List (List Int)) → (List (List Int)) → (List Int) → Int → Option (List Int)) (N : Nat) : Nat → Int → (List (List Int)) → (List (List Int)) → (List Int) → Int → (List Int) → Int → Option (List Int)
 | 0, _, _, _, _, _, _, _ => none
 | k_ + 1, n4, l4, proof4, out3, i2, x, k => spec_UnsatCore_l2_b N spec_UnsatCore_l1R (spec_UnsatCore_l2 spec_UnsatCore_l1R N k_) n4 l4 proof4 out3 i2 x k
def spec_UnsatCore_l1_b (N : Nat) (spec_UnsatCore_l2S : Int → (List (List Int)) → (List (List Int)) → (List Int) → Int → (List Int) → Int → Option (List Int)) (rec_ : Int → (List (List Int)) → (List (List Int)) → (List Int) → Int → Option (List Int)) (n3 : Int) (l3 : List (List Int)) (proof3 : List (List Int)) (out2 : List Int) (i : Int) : Option (List Int) :=
 bif decide (i ≥ 0) then spec_UnsatCore_l2S n3 l3 proof3 out2 i [] 0
 else
 some out2
def spec_UnsatCore_l1 (N : Nat) : Nat → Int → (List (List Int)) → (List (List Int)) → (List Int) → Int → Option (List Int)
 | 0, _, _, _, _, _ => none
 | k_ + 1, n3, l3, proof3, out2, i => spec_UnsatCore_l1_b N (spec_UnsatCore_l2 (spec_UnsatCore_l1 N k_) N N) (spec_UnsatCore_l1 N k_) n3 l3 proof3 out2 i
def spec_UnsatCore_l0_b (N : Nat) (spec_UnsatCore_l1S : Int → (List (List Int)) → (List (List Int)) → (List Int) → Int → Option (List Int)) (rec_ : Int → (List (List Int)) → (List (List Int)) → (List Int) → Option (List Int)) (n2 : Int) (l2 : List (List Int)) (proof2 : List (List Int)) (out : List Int) : Option (List Int) :=
 bif decide ((out.length : Int) < (l2.length : Int)) then
  grd (appOk out [(out.length : Int)] 8) <|
  rec_ n2 l2 proof2 (out ++ [(out.length : Int)])
 else
 spec_UnsatCore_l1S n2 l2 proof2 out (w64 ((l2.length : Int) - 1))
def spec_UnsatCore_l0 (N : Nat) : Nat → Int → (List (List Int)) → (List (List Int)) → (List Int) → Option (List Int)
 | 0, _, _, _, _ => none
 | k_ + 1, n2, l2, proof2, out => spec_UnsatCore_l0_b N (spec_UnsatCore_l1 N N) (spec_UnsatCore_l0 N k_) n2 l2 proof2 out
def spec_UnsatCore_b (N : Nat) (spec_UnsatCore_l0S : Int → (List (List Int)) → (List (List Int)) → (List Int) → Option (List Int)) (n : Int) (l : List (List Int)) (proof : List (List Int)) : Option (List Int) :=
 (spec_IsValidProof N n l proof).bind fun r =>
 bif (!r) then some []
 else
 spec_UnsatCore_l0S n l proof []
def spec_UnsatCore (N : Nat) (n : Int) (l : List (List Int)) (proof : List (List Int)) : Option (List Int) := spec_UnsatCore_b N (spec_UnsatCore_l0 N N) n l proof
def impl_within (N : Nat) (n : Int) (low : Int) (high : Int) : Option (Bool) :=
 bif decide (low ≤ n) then some (decide (n ≤ high))
 else
 some false
def slices_Index_Lint_int_l0_b (N : Nat) (rec_ : (List Int) → Int → Int → Int → Option (Int)) (s2 : List Int) (v2 : Int) (t7 : Int) (t8 : Int) : Option (Int) :=
 bif decide (t8 < t7) then
  grd (inb t8 s2) <|
  bif (v2 == (at_ 0 s2 t8)) then some t8
  else
  rec_ s2 v2 t7 (w64 (t8 + 1))
 else
 some (-1)
def slices_Index_Lint_int_l0 (N : Nat) : Nat → (List Int) → Int → Int → Int → Option (Int)
 | 0, _, _, _, _ => none
 | k_ + 1, s2, v2, t7, t8 => slices_Index_Lint_int_l0_b N (slices_Index_Lint_int_l0 N k_) s2 v2 t7 t8
def slices_Index_Lint_int_b (N : Nat) (slices_Index_Lint_int_l0S : (List Int) → Int → Int → Int → Option (Int)) (s : List Int) (v : Int) : Option (Int) :=
 slices_Index_Lint_int_l0S s v (s.length : Int) 0
def slices_Index_Lint_int (N : Nat) (s : List Int) (v : Int) : Option (Int) := slices_Index_Lint_int_b N (slices_Index_Lint_int_l0 N N) s v
def slices_Contains_Lint_int (N : Nat) (s : List Int) (v : Int) : Option (Bool) :=
 (slices_Index_Lint_int N s v).bind fun r =>
 some (decide (r ≥ 0))
def impl_isClause_l0_b (N : Nat) (rec_ : Int → (List Int) → (List Int) → Int → Int → Option (Bool)) (n2 : Int) (clause2 : List Int) (t7 : List Int) (t8 : Int) (t9 : Int) : Option (Bool) :=
 bif decide (t9 < t8) then
  grd (inb t9 t7) <|
  bif ((at_ 0 t7 t9) == 0) then some false
  else
  (impl_within N (at_ 0 t7 t9) (w64 (0 - n2)) n2).bind fun r =>
  bif (!r) then some false
  else
  grd (subOk 0 t9 clause2.length) <|
  (slices_Contains_Lint_int N (clause2.take t9.toNat) (at_ 0 t7 t9)).bind fun r2 =>
  bif r2 then some false
  else
  grd (subOk 0 t9 clause2.length) <|
  (slices_Contains_Lint_int N (clause2.take t9.toNat) (w64 (0 - (at_ 0 t7 t9)))).bind fun r3 =>
  bif r3 then some false
  else
  rec_ n2 clause2 t7 t8 (w64 (t9 + 1))
 else
 some true
def impl_isClause_l0 (N : Nat) : Nat → Int → (List Int) → (List Int) → Int → Int → Option (Bool)
 | 0, _, _, _, _, _ => none
 | k_ + 1, n2, clause2, t7, t8, t9 => impl_isClause_l0_b N (impl_isClause_l0 N k_) n2 clause2 t7 t8 t9
def impl_isClause_b (N : Nat) (impl_isClause_l0S : Int → (List Int) → (List Int) → Int → Int → Option (Bool)) (n : Int) (clause : List Int) : Option (Bool) :=
 impl_isClause_l0S n clause clause (clause.length : Int) 0
def impl_isClause (N : Nat) (n : Int) (clause : List Int) : Option (Bool) := impl_isClause_b N (impl_isClause_l0 N N) n clause
def impl_areClauses_c1 (N : Nat) (clause : List Int) (c1 : Int) : Option (Bool) :=
 (impl_isClause N c1 clause).bind fun r =>
 some (!r)
def slices_IndexFunc_LLint_Lint_areClauses_c1_l0_b (N : Nat) (rec_ : (List (List Int)) → Int → Int → Int → Option (Int)) (s2 : List (List Int)) (f : Int) (t7 : Int) (t8 : Int) : Option (Int) :=
 bif decide (t8 < t7) then
  grd (inb t8 s2) <|
  (impl_areClauses_c1 N (at_ [] s2 t8) f).bind fun r =>
  bif r then some t8
  else
  rec_ s2 f t7 (w64 (t8 + 1))
 else
 some (-1)
def slices_IndexFunc_LLint_Lint_areClauses_c1_l0 (N : Nat) : Nat → (List (List Int)) → Int → Int → Int → Option (Int)
 | 0, _, _, _, _ => none
 | k_ + 1, s2, f, t7, t8 => slices_IndexFunc_LLint_Lint_areClauses_c1_l0_b N (slices_IndexFunc_LLint_Lint_areClauses_c1_l0 N k_) s2 f t7 t8
def slices_IndexFunc_LLint_Lint_areClauses_c1_b (N : Nat) (slices_IndexFunc_LLint_Lint_areClauses_c1_l0S : (List (List Int)) → Int → Int → Int → Option (Int)) (s : List (List Int)) (c : Int) : Option (Int) :=
 slices_IndexFunc_LLint_Lint_areClauses_c1_l0S s c (s.length : Int) 0
def slices_IndexFunc_LLint_Lint_areClauses_c1 (N : Nat) (s : List (List Int)) (c : Int) : Option (Int) := slices_IndexFunc_LLint_Lint_areClauses_c1_b N (slices_IndexFunc_LLint_Lint_areClauses_c1_l0 N N) s c
def slices_ContainsFunc_LLint_Lint_areClauses_c1 (N : Nat) (s : List (List Int)) (c : Int) : Option (Bool) :=
 (slices_IndexFunc_LLint_Lint_areClauses_c1 N s c).bind fun r =>
 some (decide (r ≥ 0))
def impl_areClauses (N : Nat) (n : Int) (clauses : List (List Int)) : Option (Bool) :=
 (impl_within N n 0 14).bind fun r =>
 bif r then
  (slices_ContainsFunc_LLint_Lint_areClauses_c1 N clauses n).bind fun r2 =>
  some (!r2)
 else
 some false
def impl_AreValidClauses (N : Nat) (n : Int) (clauses : List (List Int)) : Option (Bool) :=
 bif decide ((clauses.length : Int) ≤ 400) then
  (impl_areClauses N n clauses).bind fun r =>
  some r
 else
 some false
def impl_NegateLiterals_l0_b (N : Nat) (rec_ : (List Int) → (List Int) → Int → Int → Option (List Int)) (out : List Int) (t7 : List Int) (t8 : Int) (t9 : Int) : Option (List Int) :=
 bif decide (t9 < t8) then
  grd (inb t9 t7) <|
  grd (appOk out [(w64 (0 - (at_ 0 t7 t9)))] 8) <|
  rec_ (out ++ [(w64 (0 - (at_ 0 t7 t9)))]) t7 t8 (w64 (t9 + 1))
 else
 some out
def impl_NegateLiterals_l0 (N : Nat) : Nat → (List Int) → (List Int) → Int → Int → Option (List Int)
 | 0, _, _, _, _ => none
 | k_ + 1, out, t7, t8, t9 => impl_NegateLiterals_l0_b N (impl_NegateLiterals_l0 N k_) out t7 t8 t9
def impl_NegateLiterals_b (N : Nat) (impl_NegateLiterals_l0S : (List Int) → (List Int) → Int → Int → Option (List Int)) (literals : List Int) : Option (List Int) :=
 impl_NegateLiterals_l0S [] literals (literals.length : Int) 0
def impl_NegateLiterals (N : Nat) (literals : List Int) : Option (List Int) := impl_NegateLiterals_b N (impl_NegateLiterals_l0 N N) literals
def impl_propagate_c1 (N : Nat) (x : Int) (c1 : List Int) : Option (Bool) :=
 (slices_Contains_Lint_int N c1 x).bind fun r =>
 some r
def slices_IndexFunc_Lint_int_propagate_c1_l0_b (N : Nat) (rec_ : (List Int) → (List Int) → Int → Int → Option (Int)) (s2 : List Int) (f : List Int) (t7 : Int) (t8 : Int) : Option (Int) :=
 bif decide (t8 < t7) then
  grd (inb t8 s2) <|
  (impl_propagate_c1 N (at_ 0 s2 t8) f).bind fun r =>
  bif r then some t8
  else
  rec_ s2 f t7 (w64 (t8 + 1))
 else
 some (-1)
def slices_IndexFunc_Lint_int_propagate_c1_l0 (N : Nat) : Nat → (List Int) → (List Int) → Int → Int → Option (Int)
 | 0, _, _, _, _ => none
 | k_ + 1, s2, f, t7, t8 => slices_IndexFunc_Lint_int_propagate_c1_l0_b N (slices_IndexFunc_Lint_int_propagate_c1_l0 N k_) s2 f t7 t8
def slices_IndexFunc_Lint_int_propagate_c1_b (N : Nat) (slices_IndexFunc_Lint_int_propagate_c1_l0S : (List Int) → (List Int) → Int → Int → Option (Int)) (s : List Int) (c : List Int) : Option (Int) :=
 slices_IndexFunc_Lint_int_propagate_c1_l0S s c (s.length : Int) 0
def slices_IndexFunc_Lint_int_propagate_c1 (N : Nat) (s : List Int) (c : List Int) : Option (Int) := slices_IndexFunc_Lint_int_propagate_c1_b N (slices_IndexFunc_Lint_int_propagate_c1_l0 N N) s c
def slices_ContainsFunc_Lint_int_propagate_c1 (N : Nat) (s : List Int) (c : List Int) : Option (Bool) :=
 (slices_IndexFunc_Lint_int_propagate_c1 N s c).bind fun r =>
 some (decide (r ≥ 0))
def impl_without_l0_b (N : Nat) (rec_ : (List Int) → (List Int) → (List Int) → Int → Int → Option (List Int)) (b2 : List Int) (out : List Int) (t9 : List Int) (t10 : Int) (t11 : Int) : Option (List Int) :=
 bif decide (t11 < t10) then
  grd (inb t11 t9) <|
  (slices_Contains_Lint_int N b2 (at_ 0 t9 t11)).bind fun r =>
  bif (!r) then
   grd (appOk out [(at_ 0 t9 t11)] 8) <|
   rec_ b2 (out ++ [(at_ 0 t9 t11)]) t9 t10 (w64 (t11 + 1))
  else
  rec_ b2 out t9 t10 (w64 (t11 + 1))
 else
 some out
def impl_without_l0 (N : Nat) : Nat → (List Int) → (List Int) → (List Int) → Int → Int → Option (List Int)
 | 0, _, _, _, _, _ => none
 | k_ + 1, b2, out, t9, t10, t11 => impl_without_l0_b N (impl_without_l0 N k_) b2 out t9 t10 t11
def impl_without_b (N : Nat) (impl_without_l0S : (List Int) → (List Int) → (List Int) → Int → Int → Option (List Int)) (a : List Int) (b : List Int) : Option (List Int) :=
 impl_without_l0S b [] a (a.length : Int) 0
def impl_without (N : Nat) (a : List Int) (b : List Int) : Option (List Int) := impl_without_b N (impl_without_l0 N N) a b
def impl_propagate_l1_b (N : Nat) (impl_propagate_l0R : (List (List Int)) → (List Int) → Option (List Int × Bool)) (rec_ : (List (List Int)) → (List Int) → Bool → (List (List Int)) → Int → Int → Option (List Int × Bool)) (clauses3 : List (List Int)) (out2 : List Int) (found : Bool) (t14 : List (List Int)) (t15 : Int) (t16 : Int) : Option (List Int × Bool) :=
 bif decide (t16 < t15) then
  grd (inb t16 t14) <|
  (slices_ContainsFunc_Lint_int_propagate_c1 N (at_ [] t14 t16) out2).bind fun r =>
  bif r then rec_ clauses3 out2 found t14 t15 (w64 (t16 + 1))
  else
  (impl_NegateLiterals N out2).bind fun r2 =>
  (impl_without N (at_ [] t14 t16) r2).bind fun r3 =>
  bif ((r3.length : Int) == 0) then some (out2, true)
  else
  bif ((r3.length : Int) == 1) then
   grd (inb 0 r3) <|
   grd (appOk out2 [(at_ 0 r3 0)] 8) <|
   impl_propagate_l0R clauses3 (out2 ++ [(at_ 0 r3 0)])
  else
  rec_ clauses3 out2 found t14 t15 (w64 (t16 + 1))
 else
 bif (!found) then some (out2, false)
 else
 impl_propagate_l0R clauses3 out2
def impl_propagate_l1 (impl_propagate_l0R : (List (List Int)) → (List Int) → Option (List Int × Bool)) (N : Nat) : Nat → (List (List Int)) → (List Int) → Bool → (List (List Int)) → Int → Int → Option (List Int × Bool)
 | 0, _, _, _, _, _, _ => none
 | k_ + 1, clauses3, out2, found, t14, t15, t16 => impl_propagate_l1_b N impl_propagate_l0R (impl_propagate_l1 impl_propagate_l0R N k_) clauses3 out2 found t14 t15 t16
def impl_propagate_l0_b (N : Nat) (impl_propagate_l1S : (List (List Int)) → (List Int) → Bool → (List (List Int)) → Int → Int → Option (List Int × Bool)) (rec_ : (List (List Int)) → (List Int) → Option (List Int × Bool)) (clauses2 : List (List Int)) (out : List Int) : Option (List Int × Bool) :=
 impl_propagate_l1S clauses2 out false clauses2 (clauses2.length : Int) 0
def impl_propagate_l0 (N : Nat) : Nat → (List (List Int)) → (List Int) → Option (List Int × Bool)
 | 0, _, _ => none
 | k_ + 1, clauses2, out => impl_propagate_l0_b N (impl_propagate_l1 (impl_propagate_l0 N k_) N N) (impl_propagate_l0 N k_) clauses2 out
def impl_propagate_b (N : Nat) (impl_propagate_l0S : (List (List Int)) → (List Int) → Option (List Int × Bool)) (clauses : List (List Int)) (start : List Int) : Option (List Int × Bool) :=
 grd (appOk [] start 8) <|
 impl_propagate_l0S clauses start
def impl_propagate (N : Nat) (clauses : List (List Int)) (start : List Int) : Option (List Int × Bool) := impl_propagate_b N (impl_propagate_l0 N N) clauses start
def impl_IsValidProof_l0_b (N : Nat) (rec_ : (List (List Int)) → (List (List Int)) → (List (List Int)) → Int → Int → Option (Bool)) (proof2 : List (List Int)) (known : List (List Int)) (t29 : List (List Int)) (t30 : Int) (t31 : Int) : Option (Bool) :=
 bif decide (t31 < t30) then
  grd (inb t31 t29) <|
  (impl_NegateLiterals N (at_ [] t29 t31)).bind fun r4 =>
  (impl_propagate N known r4).bind fun p_r5 =>
  bif (!p_r5.2) then some false
  else
  grd (appOk known [(at_ [] t29 t31)] 24) <|
  rec_ proof2 (known ++ [(at_ [] t29 t31)]) t29 t30 (w64 (t31 + 1))
 else
 grd (inb (w64 ((proof2.length : Int) - 1)) proof2) <|
 some (((at_ [] proof2 (w64 ((proof2.length : Int) - 1))).length : Int) == 0)
def impl_IsValidProof_l0 (N : Nat) : Nat → (List (List Int)) → (List (List Int)) → (List (List Int)) → Int → Int → Option (Bool)
 | 0, _, _, _, _, _ => none
 | k_ + 1, proof2, known, t29, t30, t31 => impl_IsValidProof_l0_b N (impl_IsValidProof_l0 N k_) proof2 known t29 t30 t31
def impl_IsValidProof_b (N : Nat) (impl_IsValidProof_l0S : (List (List Int)) → (List (List Int)) → (List (List Int)) → Int → Int → Option (Bool)) (n : Int) (clauses : List (List Int)) (proof : List (List Int)) : Option (Bool) :=
 (impl_AreValidClauses N n clauses).bind fun r =>
 bif (!r) then some false
 else
 bif ((proof.length : Int) == 0) then some false
 else
 (impl_areClauses N n proof).bind fun r2 =>
 bif (!r2) then some false
 else
 (slices_Clone_LLint_Lint N clauses).bind fun r3 =>
 impl_IsValidProof_l0S proof r3 proof (proof.length : Int) 0
def impl_IsValidProof (N : Nat) (n : Int) (clauses : List (List Int)) (proof : List (List Int)) : Option (Bool) := impl_IsValidProof_b N (impl_IsValidProof_l0 N N) n clauses proof
def impl_SelectClauses_l0_b (N : Nat) (rec_ : (List (List Int)) → (List (List Int)) → (List Int) → Int → Int → Option (List (List Int))) (clauses2 : List (List Int)) (out : List (List Int)) (t9 : List Int) (t10 : Int) (t11 : Int) : Option (List (List Int)) :=
 bif decide (t11 < t10) then
  grd (inb t11 t9) <|
  (impl_within N (at_ 0 t9 t11) 0 (w64 ((clauses2.length : Int) - 1))).bind fun r =>
  bif r then
   grd (inb (at_ 0 t9 t11) clauses2) <|
   grd (appOk [] (at_ [] clauses2 (at_ 0 t9 t11)) 8) <|
   grd (appOk out [(at_ [] clauses2 (at_ 0 t9 t11))] 24) <|
   rec_ clauses2 (out ++ [(at_ [] clauses2 (at_ 0 t9 t11))]) t9 t10 (w64 (t11 + 1))
  else
  rec_ clauses2 out t9 t10 (w64 (t11 + 1))
 else
 some out
def impl_SelectClauses_l0 (N : Nat) : Nat → (List (List Int)) → (List (List Int)) → (List Int) → Int → Int → Option (List (List Int))
 | 0, _, _, _, _, _ => none
 | k_ + 1, clauses2, out, t9, t10, t11 => impl_SelectClauses_l0_b N (impl_SelectClauses_l0 N k_) clauses2 out t9 t10 t11
def impl_SelectClauses_b (N : Nat) (impl_SelectClauses_l0S : (List (List Int)) → (List (List Int)) → (List Int) → Int → Int → Option (List (List Int))) (clauses : List (List Int)) (indices : List Int) : Option (List (List Int)) :=
 impl_SelectClauses_l0S clauses [] indices (indices.length : Int) 0
def impl_SelectClauses (N : Nat) (clauses : List (List Int)) (indices : List Int) : Option (List (List Int)) := impl_SelectClauses_b N (impl_SelectClauses_l0 N N) clauses indices
def impl_UnsatCore_l1_b (N : Nat) (rec_ : Int → (List (List Int)) → (List (List Int)) → (List Int) → Int → Option (List Int)) (n3 : Int) (clauses3 : List (List Int)) (proof3 : List (List Int)) (out2 : List Int) (i : Int) : Option (List Int) :=
 bif decide (i ≥ 0) then
  (slices_Clone_Lint_int N out2).bind fun r2 =>
  (slices_Delete_Lint_int N r2 i (w64 (i + 1))).bind fun r3 =>
  (impl_SelectClauses N clauses3 r3).bind fun r4 =>
  (impl_IsValidProof N n3 r4 proof3).bind fun r5 =>
  bif r5 then rec_ n3 clauses3 proof3 r3 (w64 (i - 1))
  else
  rec_ n3 clauses3 proof3 out2 (w64 (i - 1))
 else
 some out2
def impl_UnsatCore_l1 (N : Nat) : Nat → Int → (List (List Int)) → (List (List Int)) → (List Int) → Int → Option (List Int)
 | 0, _, _, _, _, _ => none
 | k_ + 1, n3, clauses3, proof3, out2, i => impl_UnsatCore_l1_b N (impl_UnsatCore_l1 N k_) n3 clauses3 proof3 out2 i
def impl_UnsatCore_l0_b (N : Nat) (impl_UnsatCore_l1S : Int → (List (List Int)) → (List (List Int)) → (List Int) → Int → Option (List Int)) (rec_ : Int → (List (List Int)) → (List (List Int)) → (List Int) → Int → Int → Option (List Int)) (n2 : Int) (clauses2 : List (List Int)) (proof2 : List (List Int)) (out : List Int) (t18 : Int) (t19 : Int) : Option (List Int) :=
 bif decide (t19 < t18) then
  grd (appOk out [t19] 8) <|
  rec_ n2 clauses2 proof2 (out ++ [t19]) t18 (w64 (t19 + 1))
 else
 impl_UnsatCore_l1S n2 clauses2 proof2 out (w64 ((out.length : Int) - 1))
def impl_UnsatCore_l0 (N : Nat) : Nat → Int → (List (List Int)) → (List (List Int)) → (List Int) → Int → Int → Option (List Int)
 | 0, _, _, _, _, _, _ => none
 | k_ + 1, n2, clauses2, proof2, out, t18, t19 => impl_UnsatCore_l0_b N (impl_UnsatCore_l1 N N) (impl_UnsatCore_l0 N k_) n2 clauses2 proof2 out t18 t19
def impl_UnsatCore_b (N : Nat) (impl_UnsatCore_l0S : Int → (List (List Int)) → (List (List Int)) → (List Int) → Int → Int → Option (List Int)) (n : Int) (clauses : List (List Int)) (proof : List (List Int)) : Option (List Int) :=
 (impl_IsValidProof N n clauses proof).bind fun r =>
 bif (!r) then some []
 else
 impl_UnsatCore_l0S n clauses proof [] (clauses.length : Int) 0
def impl_UnsatCore (N : Nat) (n : Int) (clauses : List (List Int)) (proof : List (List Int)) : Option (List Int) := impl_UnsatCore_b N (impl_UnsatCore_l0 N N) n clauses proof
def laws_eqIntS_l0_b (N : Nat) (rec_ : (List Int) → (List Int) → Int → Option (Bool)) (a2 : List Int) (b2 : List Int) (i : Int) : Option (Bool) :=
 bif decide (i < (a2.length : Int)) then
  grd (inb i a2) <|
  grd (inb i b2) <|
  bif ((at_ 0 a2 i) != (at_ 0 b2 i)) then some false
  else
  rec_ a2 b2 (w64 (i + 1))
 else
 some true
def laws_eqIntS_l0 (N : Nat) : Nat → (List Int) → (List Int) → Int → Option (Bool)
 | 0, _, _, _ => none
 | k_ + 1, a2, b2, i => laws_eqIntS_l0_b N (laws_eqIntS_l0 N k_) a2 b2 i
def laws_eqIntS_b (N : Nat) (laws_eqIntS_l0S : (List Int) → (List Int) → Int → Option (Bool)) (a : List Int) (b : List Int) : Option (Bool) :=
 bif ((a.length : Int) != (b.length : Int)) then some false
 else
 laws_eqIntS_l0S a b 0
def laws_eqIntS (N : Nat) (a : List Int) (b : List Int) : Option (Bool) := laws_eqIntS_b N (laws_eqIntS_l0 N N) a b
def laws_eqIntSS_l0_b (N : Nat) (rec_ : (List (List Int)) → (List (List Int)) → Int → Option (Bool)) (a2 : List (List Int)) (b2 : List (List Int)) (i : Int) : Option (Bool) :=
 bif decide (i < (a2.length : Int)) then
  grd (inb i a2) <|
  grd (inb i b2) <|
  (laws_eqIntS N (at_ [] a2 i) (at_ [] b2 i)).bind fun r =>
  bif (!r) then some false
  else
  rec_ a2 b2 (w64 (i + 1))
 else
 some true
def laws_eqIntSS_l0 (N : Nat) : Nat → (List (List Int)) → (List (List Int)) → Int → Option (Bool)
 | 0, _, _, _ => none
 | k_ + 1, a2, b2, i => laws_eqIntSS_l0_b N (laws_eqIntSS_l0 N k_) a2 b2 i
def laws_eqIntSS_b (N : Nat) (laws_eqIntSS_l0S : (List (List Int)) → (List (List Int)) → Int → Option (Bool)) (a : List (List Int)) (b : List (List Int)) : Option (Bool) :=
 bif ((a.length : Int) != (b.length : Int)) then some false
 else
 laws_eqIntSS_l0S a b 0
def laws_eqIntSS (N : Nat) (a : List (List Int)) (b : List (List Int)) : Option (Bool) := laws_eqIntSS_b N (laws_eqIntSS_l0 N N) a b
def laws_markIntS_l0_b (N : Nat) (rec_ : (List Int) → Int → Int → Option (List Int × Int)) (a2 : List Int) (k2 : Int) (i : Int) : Option (List Int × Int) :=
 bif decide (i < (a2.length : Int)) then
  grd (inb i a2) <|
  grd (inb i a2) <|
  letv (a2.set i.toNat k2) fun u =>
  rec_ u (w64 (k2 + 1)) (w64 (i + 1))
 else
 some (a2, k2)
def laws_markIntS_l0 (N : Nat) : Nat → (List Int) → Int → Int → Option (List Int × Int)
 | 0, _, _, _ => none
 | k_ + 1, a2, k2, i => laws_markIntS_l0_b N (laws_markIntS_l0 N k_) a2 k2 i
def laws_markIntS_b (N : Nat) (laws_markIntS_l0S : (List Int) → Int → Int → Option (List Int × Int)) (a : List Int) (k : Int) : Option (List Int × Int) :=
 laws_markIntS_l0S a k 0
def laws_markIntS (N : Nat) (a : List Int) (k : Int) : Option (List Int × Int) := laws_markIntS_b N (laws_markIntS_l0 N N) a k
def laws_markIntSS_l0_b (N : Nat) (rec_ : (List (List Int)) → Int → Int → Option (List (List Int) × Int)) (a2 : List (List Int)) (k2 : Int) (i : Int) : Option (List (List Int) × Int) :=
 bif decide (i < (a2.length : Int)) then
  grd (inb i a2) <|
  (laws_markIntS N (at_ [] a2 i) k2).bind fun p_m =>
  letv (a2.set i.toNat p_m.1) fun u =>
  rec_ u p_m.2 (w64 (i + 1))
 else
 some (a2, k2)
def laws_markIntSS_l0 (N : Nat) : Nat → (List (List Int)) → Int → Int → Option (List (List Int) × Int)
 | 0, _, _, _ => none
 | k_ + 1, a2, k2, i => laws_markIntSS_l0_b N (laws_markIntSS_l0 N k_) a2 k2 i
def laws_markIntSS_b (N : Nat) (laws_markIntSS_l0S : (List (List Int)) → Int → Int → Option (List (List Int) × Int)) (a : List (List Int)) (k : Int) : Option (List (List Int) × Int) :=
 laws_markIntSS_l0S a k 0
def laws_markIntSS (N : Nat) (a : List (List Int)) (k : Int) : Option (List (List Int) × Int) := laws_markIntSS_b N (laws_markIntSS_l0 N N) a k
def laws_heldIntS_l0_b (N : Nat) (rec_ : (List Int) → Int → Int → Option (Int)) (a2 : List Int) (k2 : Int) (i : Int) : Option (Int) :=
 bif decide (i < (a2.length : Int)) then
  grd (inb i a2) <|
  bif ((at_ 0 a2 i) != k2) then some (-1)
  else
  rec_ a2 (w64 (k2 + 1)) (w64 (i + 1))
 else
 some k2
def laws_heldIntS_l0 (N : Nat) : Nat → (List Int) → Int → Int → Option (Int)
 | 0, _, _, _ => none
 | k_ + 1, a2, k2, i => laws_heldIntS_l0_b N (laws_heldIntS_l0 N k_) a2 k2 i
def laws_heldIntS_b (N : Nat) (laws_heldIntS_l0S : (List Int) → Int → Int → Option (Int)) (a : List Int) (k : Int) : Option (Int) :=
 laws_heldIntS_l0S a k 0
def laws_heldIntS (N : Nat) (a : List Int) (k : Int) : Option (Int) := laws_heldIntS_b N (laws_heldIntS_l0 N N) a k
def laws_FnExactUnsatCore (N : Nat) (aN : Int) (aClauses : List (List Int)) (aProof : List (List Int)) : Option (Bool) :=
 (laws_szIntSS N aClauses 1048576).bind fun r =>
 bif decide (r < 0) then some true
 else
 (laws_szIntSS N aProof r).bind fun r2 =>
 bif decide (r2 < 0) then some true
 else
 (laws_toIntSS N aClauses).bind fun r3 =>
 (laws_toIntSS N aProof).bind fun r4 =>
 (spec_UnsatCore N aN r3 r4).bind fun r5 =>
 (laws_toIntSS N aClauses).bind fun r6 =>
 (laws_toIntSS N aProof).bind fun r7 =>
 (impl_UnsatCore N aN r6 r7).bind fun r8 =>
 (laws_eqIntS N r8 r5).bind fun r9 =>
 bif (!r9) then some false
 else
 (laws_toIntSS N aClauses).bind fun r10 =>
 (laws_eqIntSS N r6 r10).bind fun r11 =>
 bif (!r11) then some false
 else
 (laws_toIntSS N aProof).bind fun r12 =>
 (laws_eqIntSS N r7 r12).bind fun r13 =>
 bif (!r13) then some false
 else
 (laws_markIntSS N r6 1).bind fun p_m =>
 (laws_markIntSS N r7 p_m.2).bind fun p_m2 =>
 bif decide (p_m2.2 < 0) then some false
 else
 (laws_eqIntS N r8 r5).bind fun r16 =>
 bif (!r16) then some false
 else
 (laws_markIntS N r8 1).bind fun p_m3 =>
 (laws_heldIntS N p_m3.1 1).bind fun r18 =>
 bif decide (r18 < 0) then some false
 else
 bif (r18 != p_m3.2) then some false
 else
 (laws_toIntSS N aClauses).bind fun r19 =>
 (laws_toIntSS N aProof).bind fun r20 =>
 (impl_UnsatCore N aN r19 r20).bind fun r21 =>
 (laws_eqIntS N r21 r5).bind fun r22 =>
 bif (!r22) then some false
 else
 (laws_heldIntS N p_m3.1 1).bind fun r23 =>
 bif decide (r23 < 0) then some false
 else
 bif (r23 != p_m3.2) then some false
 else
 some true
end Go.PL

/- The plain law, with all that it needs. Conditions: those that stand in each theorem. -/
namespace Go.PL
set_option linter.unusedVariables false
theorem w64_id {x : Int} (h1 : -9223372036854775808 ≤ x) (h2 : x ≤ 9223372036854775807) : w64 x = x := by
 unfold w64 IntKind.wrap
 simp [IntKind.bits, IntKind.signed]
 omega
theorem w64_succ {j : Nat} (h : j < 4611686018427387904) : w64 ((j : Int) + 1) = ((j + 1 : Nat) : Int) := by
 rw [w64_id (by omega) (by omega)]; omega
@[simp] theorem grd_true {α : Type} (x : Option α) : grd true x = x := rfl
@[simp] theorem grd_false {α : Type} (x : Option α) : grd false x = none := rfl
theorem grz_ne {α : Type} {b : Int} (h : b ≠ 0) (x : Option α) : grz b x = x := by simp [grz, h]
@[simp] theorem letv_eq {α β : Type} (v : α) (k : α → β) : letv v k = k v := rfl
theorem inb_nat {α : Type} (j : Nat) (xs : List α) : inb (j : Int) xs = decide (j < xs.length) := by
 simp [inb]
theorem inb_lt {α : Type} {j : Nat} {xs : List α} (h : j < xs.length) : inb (j : Int) xs = true := by simp [inb_nat, h]
theorem at_lt {α : Type} {d : α} {j : Nat} {xs : List α} (h : j < xs.length) : at_ d xs (j : Int) = xs[j] := by simp [at_, h]
theorem makeOk_lt {n : Nat} {b : Nat} (h : n * b ≤ 140737488355328) : makeOk (n : Int) b = true := by
 have h1 : (n : Int) * (b : Int) ≤ 140737488355328 := by rw [← Int.natCast_mul]; omega
 have h2 : (0 : Int) ≤ n := by omega
 simp only [makeOk, h1, h2, decide_true, Bool.and_self]

theorem bneI (a b : Int) : (a != b) = !decide (a = b) := by by_cases h : a = b <;> simp [h]
theorem beqI (a b : Int) : (a == b) = decide (a = b) := by by_cases h : a = b <;> simp [h]
theorem ite_dec {p : Prop} [Decidable p] {α : Type} (x y : Option α) : (bif !decide p then x else y) = if decide p then y else x := by by_cases h : p <;> simp [h]

/-- A loop: what holds at each round's start, and what goes down; what comes out. -/
theorem loop {σ R : Type} (f : Nat → σ → Option R) (I : σ → Prop) (μ : σ → Nat) (Q : Option R → Prop) (hstep : ∀ k s, I s → Q (f (k + 1) s) ∨ ∃ s', I s' ∧ μ s' < μ s ∧ f (k + 1) s = f k s') : ∀ (k : Nat) (s : σ), μ s < k → I s → Q (f k s)
 | 0, s, hk, hs => by omega
 | k + 1, s, hk, hs => by
  rcases hstep k s hs with h | ⟨s', h1, h2, h3⟩
  ·exact h
  ·rw [h3]
   exact loop f I μ Q hstep k s' (by omega) h1

theorem take_succ_set {α : Type} {out a : List α} {j : Nat} {y : α} (h1 : j < a.length) (h2 : j < out.length) (ht : out.take j = a.take j) (hy : y = a[j]) : (out.set j y).take (j + 1) = a.take (j + 1) := by
 subst hy
 rw [List.take_set, List.take_succ_eq_append_getElem h2, List.take_succ_eq_append_getElem h1, ht]
 simp [List.set_append_right, List.length_take, Nat.min_eq_left (Nat.le_of_lt h1)]

/-- A loop that fills a row. -/
theorem fill {β : Type} {b : List β} (f : Nat → List β → Int → Option (List β)) (hend : ∀ k out, f (k + 1) out (b.length : Int) = some out)
  (hstep : ∀ k out j (h : j < b.length), out.length = b.length → f (k + 1) out (j : Int) = f k (out.set j b[j]) ((j + 1 : Nat) : Int)) {k : Nat} (hk : b.length < k) {out : List β} (ho : out.length = b.length) : f k out 0 = some b := by
 have := loop (fun k (s : List β × Nat) => f k s.1 (s.2 : Int)) (fun s => s.1.length = b.length ∧ s.2 ≤ b.length ∧ s.1.take s.2 = b.take s.2) (fun s => b.length - s.2) (fun o => o = some b) (fun k s hs => by
  obtain ⟨out, j⟩ := s
  obtain ⟨h1, h2, h3⟩ := hs
  simp only at h1 h2 h3 ⊢
  by_cases hj : j < b.length
  ·right
   exact ⟨(out.set j b[j], j + 1), ⟨by simp [h1], hj, take_succ_set hj (by omega) h3 rfl⟩, by simp only; omega, hstep k out j hj h1⟩
  ·left
   have : j = b.length := by omega
   subst this
   rw [hend, ← List.take_of_length_le (Nat.le_of_eq h1), h3, List.take_length]) k (out, 0) (by simpa using hk) ⟨ho, by simp, by simp⟩
 exact this
/-- A loop that asks something of each index. -/
theorem every {n : Nat} (p : Nat → Bool) (f : Nat → Int → Option Bool) (hend : ∀ k, f (k + 1) (n : Int) = some true) (hstep : ∀ k j, j < n → f (k + 1) (j : Int) = if p j then f k ((j + 1 : Nat) : Int) else some false) {k : Nat} (hk : n < k) : f k 0 = some (decide (∀ j, j < n → p j = true)) := by
 have := loop (fun k (j : Nat) => f k (j : Int)) (fun j => j ≤ n ∧ ∀ i, i < j → p i = true) (fun j => n - j) (fun o => o = some (decide (∀ j, j < n → p j = true))) (fun k j hs => by
  obtain ⟨h1, h2⟩ := hs
  by_cases hj : j < n
  ·rw [hstep k j hj]
   cases hp : p j with
   | true =>
    right
    exact ⟨j + 1, ⟨hj, fun i hi => by rcases Nat.lt_or_eq_of_le (Nat.le_of_lt_succ hi) with h | h; exact h2 i h; rw [h]; exact hp⟩, by omega, by simp⟩
   | false =>
    left
    have : ¬ ∀ j, j < n → p j = true := fun h => by have := h j hj; rw [hp] at this; simp at this
    simp [this]
  ·left
   have : j = n := by omega
   subst this
   rw [hend]
   simp only [Option.some.injEq]
   symm
   simpa using h2) k 0 (by simpa using hk) ⟨by omega, by omega⟩
 exact this
/-- A loop that asks something of each index, and says e behind it. -/
theorem everyE {R : Type} {n : Nat} (p : Nat → Bool) (no e : Option R) (f : Nat → Int → Option R) (hend : ∀ k, f (k + 1) (n : Int) = e) (hstep : ∀ k j, j < n → f (k + 1) (j : Int) = if p j then f k ((j + 1 : Nat) : Int) else no) {k : Nat} (hk : n < k) : f k 0 = if ∀ j, j < n → p j = true then e else no := by
 have := loop (fun k (j : Nat) => f k (j : Int)) (fun j => j ≤ n ∧ ∀ i, i < j → p i = true) (fun j => n - j) (fun o => o = if ∀ j, j < n → p j = true then e else no) (fun k j hs => by
  obtain ⟨h1, h2⟩ := hs
  by_cases hj : j < n
  ·rw [hstep k j hj]
   cases hp : p j with
   | true =>
    right
    exact ⟨j + 1, ⟨hj, fun i hi => by rcases Nat.lt_or_eq_of_le (Nat.le_of_lt_succ hi) with h | h; exact h2 i h; rw [h]; exact hp⟩, by omega, by simp⟩
   | false =>
    left
    have : ¬ ∀ j, j < n → p j = true := fun h => by have := h j hj; rw [hp] at this; simp at this
    simp [this]
  ·left
   have : j = n := by omega
   subst this
   rw [hend, if_pos h2]) k 0 (by simpa using hk) ⟨by omega, by omega⟩
 exact this
/-- A loop that looks for the first index of which something holds. -/
theorem first {n : Nat} (p : Nat → Bool) (f : Nat → Int → Option Int) (hend : ∀ k, f (k + 1) (n : Int) = some (-1)) (hstep : ∀ k j, j < n → f (k + 1) (j : Int) = if p j then some (j : Int) else f k ((j + 1 : Nat) : Int)) {k : Nat} (hk : n < k) :
  (∃ j, j < n ∧ p j = true ∧ (∀ i, i < j → p i = false) ∧ f k 0 = some (j : Int)) ∨ ((∀ i, i < n → p i = false) ∧ f k 0 = some (-1)) := by
 have := loop (fun k (j : Nat) => f k (j : Int)) (fun j => j ≤ n ∧ ∀ i, i < j → p i = false) (fun j => n - j) (fun o => (∃ j, j < n ∧ p j = true ∧ (∀ i, i < j → p i = false) ∧ o = some (j : Int)) ∨ ((∀ i, i < n → p i = false) ∧ o = some (-1))) (fun k j hs => by
  obtain ⟨h1, h2⟩ := hs
  by_cases hj : j < n
  ·rw [hstep k j hj]
   cases hp : p j with
   | true => left; left; exact ⟨j, hj, hp, h2, rfl⟩
   | false =>
    right
    exact ⟨j + 1, ⟨hj, fun i hi => by rcases Nat.lt_or_eq_of_le (Nat.le_of_lt_succ hi) with h | h; exact h2 i h; rw [h]; exact hp⟩, by omega, by simp⟩
  ·left; right
   have : j = n := by omega
   subst this
   exact ⟨h2, hend k⟩) k 0 (by simpa using hk) ⟨by omega, by omega⟩
 exact this
theorem w64_pred {j : Nat} (h : 0 < j) (h2 : j < 4611686018427387904) : w64 ((j : Int) - 1) = ((j - 1 : Nat) : Int) := by
 rw [w64_id (by omega) (by omega)]; omega
theorem inb_int {α : Type} {i : Int} {xs : List α} (h0 : 0 ≤ i) (h : i < xs.length) : inb i xs = true := by simp [inb, h0, h]
theorem at_int {α : Type} {d : α} {i : Int} {xs : List α} (h0 : 0 ≤ i) (h : i < xs.length) : at_ d xs i = xs[i.toNat]'(by omega) := by
 unfold at_
 rw [List.getD_eq_getElem?_getD, List.getElem?_eq_getElem (by omega)]
 rfl
end Go.PL
namespace Go.PL
set_option linter.unusedVariables false
set_option linter.unusedSimpArgs false
def in_int (x : Int) : Prop := IntKind.min .i64 ≤ x ∧ x ≤ IntKind.max .i64
theorem bneB (a b : Bool) : (a != b) = !decide (a = b) := by cases a <;> cases b <;> rfl
theorem beqB (a b : Bool) : (a == b) = decide (a = b) := by cases a <;> cases b <;> rfl
theorem list_eq_iff' {α : Type} [DecidableEq α] {a b : List α} (h : a.length = b.length) : (a = b) ↔ ∀ j, j < a.length → (decide (a[j]? = b[j]?)) = true := by
 constructor
 ·rintro rfl j _; simp
 ·intro h2
  apply List.ext_getElem?
  intro j
  by_cases hj : j < a.length
  ·simpa using h2 j hj
  ·rw [List.getElem?_eq_none (by omega), List.getElem?_eq_none (by omega)]
/-- How much of what is left is taken. -/
def sub1 (l : Int) (s : Nat) : Int := if (s : Int) ≤ l then l - s else -1
theorem sub1_pos {l : Int} {s : Nat} (h : (s : Int) ≤ l) : sub1 l s = l - s := if_pos h
theorem sub1_neg {l : Int} {s : Nat} (h : ¬ (s : Int) ≤ l) : sub1 l s = -1 := if_neg h
def sumL {α : Type} (s : α → Nat) (a : List α) : Nat := a.length + (a.map s).sum
theorem sumL_len {α : Type} {s : α → Nat} {a : List α} {m : Nat} (h : sumL s a ≤ m) : a.length ≤ m := Nat.le_trans (Nat.le_add_right _ _) h
theorem sum_mem {α : Type} {s : α → Nat} : ∀ {a : List α} {y : α}, y ∈ a → s y ≤ (a.map s).sum
 | [], y, h => by simp at h
 | x :: a, y, h => by
  rcases List.mem_cons.1 h with rfl | h
  ·simp
  ·have := sum_mem (s := s) h
   simp only [List.map_cons, List.sum_cons]; omega
theorem sumL_mem {α : Type} {s : α → Nat} {a : List α} {y : α} (h : y ∈ a) : s y ≤ sumL s a := Nat.le_trans (sum_mem h) (Nat.le_add_left _ _)
/-- A loop that takes from what is left. -/
theorem szL {α : Type} {a : List α} {s : α → Nat} {g : α → Int → Option Int} {f : Nat → Int → Int → Option Int} (hg : ∀ x ∈ a, ∀ l : Int, 0 ≤ l → l ≤ 1048576 → g x l = some (sub1 l (s x)))
  (hend : ∀ k l, f (k + 1) l (a.length : Int) = some l) (hstep : ∀ k l j (h : j < a.length), f (k + 1) l (j : Int) = (g a[j] l).bind fun r => bif decide (r < 0) then some (-1) else f k r ((j + 1 : Nat) : Int))
  {k : Nat} (hk : a.length < k) {l : Int} (h0 : 0 ≤ l) (h1 : l ≤ 1048576) : f k l 0 = some (sub1 l ((a.map s).sum)) := by
 have := loop (fun k (q : Int × Nat) => f k q.1 (q.2 : Int)) (fun q => 0 ≤ q.1 ∧ q.1 ≤ 1048576 ∧ q.2 ≤ a.length ∧ sub1 q.1 (((a.drop q.2).map s).sum) = sub1 l ((a.map s).sum)) (fun q => a.length - q.2) (fun o => o = some (sub1 l ((a.map s).sum))) (fun k q hs => by
  obtain ⟨v, j⟩ := q
  obtain ⟨g0, g1, g2, g3⟩ := hs
  simp only at g0 g1 g2 g3 ⊢
  by_cases hj : j < a.length
  ·rw [hstep k v j hj, hg a[j] (List.getElem_mem hj) v g0 g1, Option.bind_some]
   rw [List.drop_eq_getElem_cons hj, List.map_cons, List.sum_cons] at g3
   by_cases hc : (s a[j] : Int) ≤ v
   ·right
    refine ⟨(v - s a[j], j + 1), ⟨by simp only; omega, by simp only; omega, hj, ?_⟩, by simp only; omega, ?_⟩
    ·rw [← g3]; simp only [sub1]; split <;> split <;> omega
    ·rw [sub1_pos hc, decide_eq_false (by omega), cond_false]
   ·left
    rw [sub1_neg hc, decide_eq_true (by omega), cond_true]
    rw [← g3, sub1_neg (by omega)]
  ·left
   have : j = a.length := by omega
   subst this
   rw [hend]
   rw [List.drop_length] at g3
   rw [← g3]; simp [sub1, g0]) k (l, 0) (by simpa using hk) ⟨h0, h1, by simp, by simp⟩
 exact this
def mkL {α : Type} (c : α → Nat) (mv : α → Int → α) : List α → Int → List α
 | [], _ => []
 | x :: r, k => mv x k :: mkL c mv r (k + (c x : Int))
def costL {α : Type} (c : α → Nat) (a : List α) : Nat := (a.map c).sum
theorem mkL_length {α : Type} (c : α → Nat) (mv : α → Int → α) : ∀ (a : List α) (k : Int), (mkL c mv a k).length = a.length
 | [], k => rfl
 | x :: a, k => by simp [mkL, mkL_length c mv a]
theorem inb_set {α : Type} {xs : List α} {j : Nat} {v : α} {i : Int} : inb i (xs.set j v) = inb i xs := by simp [inb]
theorem at_set {α : Type} {d : α} {xs : List α} {j : Nat} {v : α} (h : j < xs.length) : at_ d (xs.set j v) (j : Int) = v := by simp [at_, h]
theorem set_set {α : Type} {xs : List α} {j : Nat} {a b : α} : (xs.set j a).set j b = xs.set j b := by simp
theorem w64_ok {x : Int} (h0 : 0 ≤ x) (h1 : x ≤ 4611686018427387904) : w64 x = x := w64_id (by omega) (by omega)
theorem not_neg {x : Int} (h : 0 ≤ x) : decide (x < 0) = false := decide_eq_false (by omega)
/-- A loop that marks. -/
theorem markL {α : Type} {c : α → Nat} {mv : α → Int → α} {P : α → Prop} {f : Nat → List α → Int → Int → Option (List α × Int)}
  (hend : ∀ k a2 k2 (j : Nat), j = a2.length → f (k + 1) a2 k2 (j : Int) = some (a2, k2))
  (hstep : ∀ k a2 k2 (j : Nat) (h : j < a2.length), P a2[j] → 0 ≤ k2 → k2 + (c a2[j] : Int) ≤ 4611686018427387904 → j < 1048576 → f (k + 1) a2 k2 (j : Int) = f k (a2.set j (mv a2[j] k2)) (k2 + (c a2[j] : Int)) ((j + 1 : Nat) : Int))
  {a : List α} (hP : ∀ y ∈ a, P y) {k0 : Int} (h0 : 0 ≤ k0) (h1 : k0 + (costL c a : Int) ≤ 4611686018427387904) (hl : a.length ≤ 1048576) {k : Nat} (hk : a.length < k) : f k a k0 0 = some (mkL c mv a k0, k0 + (costL c a : Int)) := by
 have := loop (fun k (q : List α × Int × Nat) => f k q.1 q.2.1 (q.2.2 : Int)) (fun q => ∃ done, q.1 = done ++ a.drop q.2.2 ∧ done.length = q.2.2 ∧ q.2.2 ≤ a.length ∧ done ++ mkL c mv (a.drop q.2.2) q.2.1 = mkL c mv a k0 ∧ q.2.1 + (costL c (a.drop q.2.2) : Int) = k0 + (costL c a : Int) ∧ 0 ≤ q.2.1) (fun q => a.length - q.2.2) (fun o => o = some (mkL c mv a k0, k0 + (costL c a : Int))) (fun k q hs => by
  obtain ⟨a2, k2, j⟩ := q
  obtain ⟨done, g1, g2, g3, g4, g5, g6⟩ := hs
  simp only at g1 g2 g3 g4 g5 g6 ⊢
  by_cases hj : j < a.length
  ·right
   rw [List.drop_eq_getElem_cons hj] at g1 g4 g5
   have hj2 : j < a2.length := by rw [g1]; simp; omega
   have ha2 : a2[j] = a[j] := by
    have : a2[j]? = some a[j] := by rw [g1, List.getElem?_append_right (by omega), g2]; simp
    rw [List.getElem?_eq_getElem hj2] at this
    exact Option.some.inj this
   simp only [costL, List.map_cons, List.sum_cons, Int.natCast_add] at g5
   have hcost : 0 ≤ (((a.drop (j + 1)).map c).sum : Int) := by omega
   refine ⟨(a2.set j (mv a2[j] k2), k2 + (c a2[j] : Int), j + 1), ⟨done ++ [mv a[j] k2], ?_, by simp [g2], hj, ?_, ?_, by simp only; omega⟩, by simp only; omega, ?_⟩
   ·simp only
    rw [ha2, g1, List.set_append_right _ _ (by omega), g2, Nat.sub_self, List.set_cons_zero, List.append_assoc]
    rfl
   ·simp only [ha2]
    rw [← g4]; simp [mkL]
   ·rw [ha2]; simp only [costL] at g5 ⊢; omega
   ·exact hstep k a2 k2 j hj2 (by rw [ha2]; exact hP _ (List.getElem_mem hj)) g6 (by rw [ha2]; simp only [costL] at g5 h1 ⊢; omega) (by omega)
  ·left
   have hja : j = a.length := by omega
   subst hja
   rw [List.drop_length] at g1 g4 g5
   rw [hend k a2 k2 a.length (by rw [g1]; simp [g2])]
   simp only [mkL, List.append_nil] at g1 g4
   simp only [costL, List.map_nil, List.sum_nil] at g5
   rw [g1, g4]
   simp only [costL] at g5 ⊢
   congr 2; omega) k (a, k0, 0) (by simpa using hk) ⟨[], by simp, rfl, by simp, by simp, by simp, h0⟩
 exact this
/-- A loop that looks for the marks. -/
theorem heldL {α : Type} {c : α → Nat} {mv : α → Int → α} {P : α → Prop} {f : Nat → List α → Int → Int → Option Int}
  (hend : ∀ k a2 k2 (j : Nat), j = a2.length → f (k + 1) a2 k2 (j : Int) = some k2)
  (hstep : ∀ k a2 k2 (j : Nat) (y : α) (h : j < a2.length), P y → 0 ≤ k2 → k2 + (c y : Int) ≤ 4611686018427387904 → j < 1048576 → a2[j] = mv y k2 → f (k + 1) a2 k2 (j : Int) = f k a2 (k2 + (c y : Int)) ((j + 1 : Nat) : Int))
  {a : List α} (hP : ∀ y ∈ a, P y) {k0 : Int} (h0 : 0 ≤ k0) (h1 : k0 + (costL c a : Int) ≤ 4611686018427387904) (hl : a.length ≤ 1048576) {k : Nat} (hk : a.length < k) : f k (mkL c mv a k0) k0 0 = some (k0 + (costL c a : Int)) := by
 have hlen := mkL_length c mv a k0
 have := loop (fun k (q : Int × Nat) => f k (mkL c mv a k0) q.1 (q.2 : Int)) (fun q => q.2 ≤ a.length ∧ (mkL c mv a k0).drop q.2 = mkL c mv (a.drop q.2) q.1 ∧ q.1 + (costL c (a.drop q.2) : Int) = k0 + (costL c a : Int) ∧ 0 ≤ q.1) (fun q => a.length - q.2) (fun o => o = some (k0 + (costL c a : Int))) (fun k q hs => by
  obtain ⟨k2, j⟩ := q
  obtain ⟨g3, g4, g5, g6⟩ := hs
  simp only at g3 g4 g5 g6 ⊢
  by_cases hj : j < a.length
  ·right
   have hj2 : j < (mkL c mv a k0).length := by omega
   rw [List.drop_eq_getElem_cons hj2, List.drop_eq_getElem_cons hj] at g4
   simp only [mkL, List.cons.injEq] at g4
   rw [List.drop_eq_getElem_cons hj] at g5
   simp only [costL, List.map_cons, List.sum_cons, Int.natCast_add] at g5
   have hcost : 0 ≤ (((a.drop (j + 1)).map c).sum : Int) := by omega
   refine ⟨(k2 + (c a[j] : Int), j + 1), ⟨hj, g4.2, ?_, by simp only; omega⟩, by simp only; omega, ?_⟩
   ·simp only [costL] at g5 ⊢; omega
   ·exact hstep k _ k2 j a[j] hj2 (hP _ (List.getElem_mem hj)) g6 (by simp only [costL] at g5 h1 ⊢; omega) (by omega) g4.1
  ·left
   have hja : j = a.length := by omega
   subst hja
   rw [List.drop_length] at g5
   rw [hend k _ k2 a.length hlen.symm]
   simp only [costL, List.map_nil, List.sum_nil] at g5 ⊢
   congr 1; omega) k (k0, 0) (by simpa using hk) ⟨by simp, by simp, by simp, h0⟩
 exact this

abbrev T_IntS := List Int
def in_IntS (a : T_IntS) : Prop := a.length ≤ 9223372036854775807 ∧ ∀ y ∈ a, in_int y
def s_IntS (a : T_IntS) : Nat := a.length
def b_IntS (a : T_IntS) : Prop := a.length ≤ 1048576
theorem b_of_IntS {a : T_IntS} (h : s_IntS a ≤ 1048576) : b_IntS a := h
theorem fto_IntS {N : Nat} {a : T_IntS} (h : b_IntS a) (hN : 1048576 < N) : laws_toIntS N a = some a := by
 have hl : a.length ≤ 1048576 := h
 unfold laws_toIntS laws_toIntS_b
 rw [makeOk_lt (by omega), grd_true]
 refine fill (b := a) (fun k out i => laws_toIntS_l0 N k a out i) (fun k out => by simp [laws_toIntS_l0, laws_toIntS_l0_b]) (fun k out j h1 h3 => ?_) (by omega) (by simp)
 have h2 : j < out.length := by omega
 have hj : (j : Int) < (a.length : Int) := by omega
 simp [laws_toIntS_l0, laws_toIntS_l0_b, hj, inb_lt h1, inb_lt h2, at_lt h1, w64_succ (show j < 4611686018427387904 by omega)]
theorem feq_IntS {N : Nat} {a b : T_IntS} (h : b_IntS a) (hN : 1048576 < N) : laws_eqIntS N a b = some (decide (a = b)) := by
 have hla : a.length ≤ 1048576 := h
 unfold laws_eqIntS laws_eqIntS_b
 by_cases hl : a.length = b.length
 ·have h0 : ((a.length : Int) != (b.length : Int)) = false := by simp [hl]
  rw [h0, cond_false, decide_eq_decide.2 (list_eq_iff' hl)]
  refine every (n := a.length) (fun j => decide (a[j]? = b[j]?)) (fun k i => laws_eqIntS_l0 N k a b i) (fun k => by simp [laws_eqIntS_l0, laws_eqIntS_l0_b]) (fun k j hj => ?_) (by omega)
  have h1 : (j : Int) < (a.length : Int) := by omega
  have h2 : j < b.length := by omega
  simp only [laws_eqIntS_l0, laws_eqIntS_l0_b, h1, decide_true, cond_true, inb_lt hj, inb_lt h2, grd_true, at_lt hj, at_lt h2, bneI, ite_dec, w64_succ (show j < 4611686018427387904 by omega), List.getElem?_eq_getElem hj, List.getElem?_eq_getElem h2, Option.some.injEq]
 ·have h0 : ((a.length : Int) != (b.length : Int)) = true := by simp; omega
  rw [h0, cond_true]
  have : a ≠ b := fun h => hl (by rw [h])
  simp [this]
theorem fsz_IntS {N : Nat} {a : T_IntS} {l : Int} (h : in_IntS a) (h0 : 0 ≤ l) (h1 : l ≤ 1048576) (hN : 1048576 < N) : laws_szIntS N a l = some (sub1 l (s_IntS a)) := by
 have := h.1
 unfold laws_szIntS s_IntS sub1
 rw [w64_id (by omega) (by omega)]
 by_cases h : (a.length : Int) ≤ l
 ·rw [if_pos h, decide_eq_false (by omega)]; rfl
 ·rw [if_neg h, decide_eq_true (by omega)]; rfl
def me_IntS (N : Nat) (x : Int) (k : Int) : Int := k
def ce_IntS (x : Int) : Nat := 1
def mk_IntS (N : Nat) (a : T_IntS) (k : Int) : T_IntS := mkL ce_IntS (me_IntS N) a k
def c_IntS (a : T_IntS) : Nat := costL ce_IntS a
theorem fmk_IntS {N : Nat} {a : T_IntS} {k : Int} (h : b_IntS a) (h0 : 0 ≤ k) (h1 : k + (c_IntS a : Int) ≤ 4611686018427387904) (hN : 1048576 < N) : laws_markIntS N a k = some (mk_IntS N a k, k + (c_IntS a : Int)) := by
 have hla : a.length ≤ 1048576 := h
 unfold laws_markIntS laws_markIntS_b
 refine markL (P := fun y => True) (f := fun k a2 k2 i => laws_markIntS_l0 N k a2 k2 i) (fun k a2 k2 j hj => by subst hj; simp [laws_markIntS_l0, laws_markIntS_l0_b]) (fun k a2 k2 j h1 hy h0 hc hl => ?_) (fun _ _ => trivial) h0 h1 (by omega) (by omega)
 have h2 : (j : Int) < (a2.length : Int) := by omega
 simp only [ce_IntS, Int.natCast_add, Int.cast_ofNat_Int, Int.natCast_one] at hc
 simp (disch := first | assumption | omega) only [laws_markIntS_l0, laws_markIntS_l0_b, h2, decide_true, cond_true, inb_lt h1, inb_set, grd_true, grz_ne, letv_eq, at_lt h1, at_set, set_set, Int.toNat_natCast, w64_ok, w64_succ, Option.bind_some, Option.bind_some]
 simp only [ce_IntS, me_IntS, Int.natCast_add, Int.cast_ofNat_Int, Int.natCast_one, Int.add_assoc]
theorem fhd_IntS {N : Nat} {a : T_IntS} {k : Int} (h : b_IntS a) (h0 : 0 ≤ k) (h1 : k + (c_IntS a : Int) ≤ 4611686018427387904) (hN : 1048576 < N) : laws_heldIntS N (mk_IntS N a k) k = some (k + (c_IntS a : Int)) := by
 have hla : a.length ≤ 1048576 := h
 unfold laws_heldIntS laws_heldIntS_b
 refine heldL (P := fun y => True) (f := fun k a2 k2 i => laws_heldIntS_l0 N k a2 k2 i) (fun k a2 k2 j hj => by subst hj; simp [laws_heldIntS_l0, laws_heldIntS_l0_b]) (fun k a2 k2 j y h1 hy h0 hc hl he => ?_) (fun _ _ => trivial) h0 h1 (by omega) (by omega)
 have h2 : (j : Int) < (a2.length : Int) := by omega
 simp only [ce_IntS, Int.natCast_add, Int.cast_ofNat_Int, Int.natCast_one] at hc
 simp only [laws_heldIntS_l0, laws_heldIntS_l0_b, h2, decide_true, cond_true, inb_lt h1, grd_true, at_lt h1, he, me_IntS]
 simp (disch := first | assumption | omega) only [bneI, bneB, beqB, decide_true, Bool.not_true, cond_false, w64_ok, w64_succ, Option.bind_some, not_neg, grz_ne, Int.add_assoc, Option.bind_some]
 simp only [ce_IntS, Int.natCast_add, Int.cast_ofNat_Int, Int.natCast_one, Int.add_assoc]
abbrev T_IntSS := List T_IntS
def in_IntSS (a : T_IntSS) : Prop := a.length ≤ 9223372036854775807 ∧ ∀ y ∈ a, in_IntS y
def s_IntSS (a : T_IntSS) : Nat := sumL s_IntS a
def b_IntSS (a : T_IntSS) : Prop := a.length ≤ 1048576 ∧ ∀ y ∈ a, b_IntS y
theorem b_of_IntSS {a : T_IntSS} (h : s_IntSS a ≤ 1048576) : b_IntSS a := ⟨(sumL_len h), fun y hy => b_of_IntS (Nat.le_trans (sumL_mem hy) h)⟩
theorem fto_IntSS {N : Nat} {a : T_IntSS} (h : b_IntSS a) (hN : 1048576 < N) : laws_toIntSS N a = some a := by
 have hl : a.length ≤ 1048576 := h.1
 unfold laws_toIntSS laws_toIntSS_b
 rw [makeOk_lt (by omega), grd_true]
 refine fill (b := a) (fun k out i => laws_toIntSS_l0 N k a out i) (fun k out => by simp [laws_toIntSS_l0, laws_toIntSS_l0_b]) (fun k out j h1 h3 => ?_) (by omega) (by simp)
 have h2 : j < out.length := by omega
 have hj : (j : Int) < (a.length : Int) := by omega
 simp [laws_toIntSS_l0, laws_toIntSS_l0_b, hj, inb_lt h1, inb_lt h2, at_lt h1, fto_IntS (h.2 _ (List.getElem_mem h1)) hN, w64_succ (show j < 4611686018427387904 by omega)]
theorem feq_IntSS {N : Nat} {a b : T_IntSS} (h : b_IntSS a) (hN : 1048576 < N) : laws_eqIntSS N a b = some (decide (a = b)) := by
 have hla : a.length ≤ 1048576 := h.1
 unfold laws_eqIntSS laws_eqIntSS_b
 by_cases hl : a.length = b.length
 ·have h0 : ((a.length : Int) != (b.length : Int)) = false := by simp [hl]
  rw [h0, cond_false, decide_eq_decide.2 (list_eq_iff' hl)]
  refine every (n := a.length) (fun j => decide (a[j]? = b[j]?)) (fun k i => laws_eqIntSS_l0 N k a b i) (fun k => by simp [laws_eqIntSS_l0, laws_eqIntSS_l0_b]) (fun k j hj => ?_) (by omega)
  have h1 : (j : Int) < (a.length : Int) := by omega
  have h2 : j < b.length := by omega
  simp only [laws_eqIntSS_l0, laws_eqIntSS_l0_b, h1, decide_true, cond_true, inb_lt hj, inb_lt h2, grd_true, at_lt hj, at_lt h2, feq_IntS (h.2 _ (List.getElem_mem hj)) hN, Option.bind_some, ite_dec, w64_succ (show j < 4611686018427387904 by omega), List.getElem?_eq_getElem hj, List.getElem?_eq_getElem h2, Option.some.injEq]
 ·have h0 : ((a.length : Int) != (b.length : Int)) = true := by simp; omega
  rw [h0, cond_true]
  have : a ≠ b := fun h => hl (by rw [h])
  simp [this]
theorem fsz_IntSS {N : Nat} {a : T_IntSS} {l : Int} (h : in_IntSS a) (h0 : 0 ≤ l) (h1 : l ≤ 1048576) (hN : 1048576 < N) : laws_szIntSS N a l = some (sub1 l (s_IntSS a)) := by
 have hlen := h.1
 unfold laws_szIntSS laws_szIntSS_b
 rw [w64_id (by omega) (by omega)]
 by_cases hc : (a.length : Int) ≤ l
 ·rw [decide_eq_false (by omega), cond_false]
  rw [szL (a := a) (s := s_IntS) (g := fun x l => laws_szIntS N x l) (f := fun k l i => laws_szIntSS_l0 N k a l i) (fun x hx l h0 h1 => fsz_IntS (h.2 x hx) h0 h1 hN) (fun k l => by simp [laws_szIntSS_l0, laws_szIntSS_l0_b]) (fun k l j hj => by
    have h2 : (j : Int) < (a.length : Int) := by omega
    simp only [laws_szIntSS_l0, laws_szIntSS_l0_b, h2, decide_true, cond_true, inb_lt hj, grd_true, at_lt hj, w64_succ (show j < 4611686018427387904 by omega)]) (by omega) (by omega) (by omega)]
  unfold s_IntSS sumL sub1
  congr 1
  split <;> split <;> omega
 ·rw [decide_eq_true (by omega), cond_true]
  unfold s_IntSS sumL sub1
  rw [if_neg (by omega)]
def me_IntSS (N : Nat) (x : T_IntS) (k : Int) : T_IntS := mk_IntS N x k
def ce_IntSS (x : T_IntS) : Nat := c_IntS x
def mk_IntSS (N : Nat) (a : T_IntSS) (k : Int) : T_IntSS := mkL ce_IntSS (me_IntSS N) a k
def c_IntSS (a : T_IntSS) : Nat := costL ce_IntSS a
theorem fmk_IntSS {N : Nat} {a : T_IntSS} {k : Int} (h : b_IntSS a) (h0 : 0 ≤ k) (h1 : k + (c_IntSS a : Int) ≤ 4611686018427387904) (hN : 1048576 < N) : laws_markIntSS N a k = some (mk_IntSS N a k, k + (c_IntSS a : Int)) := by
 have hla : a.length ≤ 1048576 := h.1
 unfold laws_markIntSS laws_markIntSS_b
 refine markL (P := fun y => b_IntS y) (f := fun k a2 k2 i => laws_markIntSS_l0 N k a2 k2 i) (fun k a2 k2 j hj => by subst hj; simp [laws_markIntSS_l0, laws_markIntSS_l0_b]) (fun k a2 k2 j h1 hy h0 hc hl => ?_) h.2 h0 h1 (by omega) (by omega)
 have h2 : (j : Int) < (a2.length : Int) := by omega
 simp only [ce_IntSS, Int.natCast_add, Int.cast_ofNat_Int, Int.natCast_one] at hc
 simp (disch := first | assumption | omega) only [laws_markIntSS_l0, laws_markIntSS_l0_b, h2, decide_true, cond_true, inb_lt h1, inb_set, grd_true, grz_ne, letv_eq, at_lt h1, at_set, set_set, Int.toNat_natCast, w64_ok, w64_succ, Option.bind_some, fmk_IntS]
 simp only [ce_IntSS, me_IntSS, Int.natCast_add, Int.cast_ofNat_Int, Int.natCast_one, Int.add_assoc]
end Go.PL
namespace Go.PL
set_option linter.unusedVariables false
/-- A loop that appends a piece for each element. -/
theorem collect {α β : Type} {a : List α} (piece : α → List β) {f : Nat → List β → Int → Option (List β)} (hp : ∀ x ∈ a, (piece x).length ≤ 1) (hend : ∀ k out, f (k + 1) out (a.length : Int) = some out)
  (hstep : ∀ k out j (h : j < a.length), out.length ≤ j → f (k + 1) out (j : Int) = f k (out ++ piece a[j]) ((j + 1 : Nat) : Int)) {k : Nat} (hk : a.length < k) : f k [] 0 = some (a.flatMap piece) := by
 have := loop (fun k (q : List β × Nat) => f k q.1 (q.2 : Int)) (fun q => q.2 ≤ a.length ∧ q.1.length ≤ q.2 ∧ q.1 ++ (a.drop q.2).flatMap piece = a.flatMap piece) (fun q => a.length - q.2) (fun o => o = some (a.flatMap piece)) (fun k q hs => by
  obtain ⟨out, j⟩ := q
  obtain ⟨h1, h2, h3⟩ := hs
  simp only at h1 h2 h3 ⊢
  by_cases hj : j < a.length
  ·right
   refine ⟨(out ++ piece a[j], j + 1), ⟨hj, ?_, ?_⟩, by simp only; omega, hstep k out j hj h2⟩
   ·have := hp a[j] (List.getElem_mem hj)
    simp only [List.length_append]; omega
   ·rw [← h3, List.drop_eq_getElem_cons hj, List.flatMap_cons, List.append_assoc]
  ·left
   have : j = a.length := by omega
   subst this
   rw [hend, ← h3, List.drop_length]; simp) k ([], 0) (by simpa using hk) ⟨by simp, by simp, by simp⟩
 exact this
theorem appOk_of {α : Type} {s x : List α} {b : Nat} (h : (s.length + x.length) * b ≤ 140737488355328) : appOk s x b = true := decide_eq_true h
theorem flatMap_len {α β : Type} {piece : α → List β} {n : Nat} : ∀ {a : List α}, (∀ x ∈ a, (piece x).length ≤ n) → (a.flatMap piece).length ≤ a.length * n
 | [], _ => by simp
 | x :: a, h => by
  have h1 := h x (by simp)
  have h2 := flatMap_len (a := a) fun y hy => h y (by simp [hy])
  rw [List.flatMap_cons, List.length_append, List.length_cons, Nat.add_mul]; omega

/-- The clauses that indices choose. -/
def selC (l : List (List Int)) (i : Int) : List (List Int) := if 0 ≤ i ∧ i ≤ (l.length : Int) - 1 then [at_ [] l i] else []
def selL (l : List (List Int)) (ix : List Int) : List (List Int) := ix.flatMap (selC l)
theorem selC_len (l : List (List Int)) (i : Int) : (selC l i).length ≤ 1 := by unfold selC; split <;> simp
theorem within_ {N : Nat} (x a b : Int) : impl_within N x a b = some (decide (a ≤ x ∧ x ≤ b)) := by
 unfold impl_within
 by_cases h : a ≤ x <;> simp [h]
theorem l1In_ {N : Nat} (x a b : Int) : spec_l1In N x a b = some (decide (a ≤ x ∧ x ≤ b)) := by
 unfold spec_l1In
 by_cases h : a ≤ x <;> simp [h]
theorem selB {l : List (List Int)} {ix : List Int} (hl : b_IntSS l) (hx : ix.length ≤ 1048576) : b_IntSS (selL l ix) := by
 refine ⟨Nat.le_trans (flatMap_len (n := 1) fun x _ => selC_len l x) (by omega), fun y hy => ?_⟩
 simp only [selL, List.mem_flatMap] at hy
 obtain ⟨i, _, hy⟩ := hy
 unfold selC at hy
 split at hy
 ·rename_i h
  obtain rfl : y = _ := by simpa using hy
  rw [at_int h.1 (by omega)]
  exact hl.2 _ (List.getElem_mem _)
 ·simp at hy
theorem at_len {l : List (List Int)} (hl : b_IntSS l) {i : Int} (h0 : 0 ≤ i) (h1 : i < (l.length : Int)) : (at_ [] l i).length ≤ 1048576 := by
 rw [at_int h0 h1]
 exact hl.2 _ (List.getElem_mem _)
theorem specSelect {N : Nat} {l : List (List Int)} {ix : List Int} (hl : b_IntSS l) (hx : ix.length ≤ 1048576) (hN : 1048576 < N) : spec_SelectClauses N l ix = some (selL l ix) := by
 have hll : l.length ≤ 1048576 := hl.1
 unfold spec_SelectClauses spec_SelectClauses_b
 refine collect (a := ix) (selC l) (f := fun k out i => spec_SelectClauses_l0 N k l ix out i) (fun x _ => selC_len l x) (fun k out => by simp [spec_SelectClauses_l0, spec_SelectClauses_l0_b]) (fun k out j hj ho => ?_) (by omega)
 have h1 : (j : Int) < (ix.length : Int) := by omega
 simp only [spec_SelectClauses_l0, spec_SelectClauses_l0_b, h1, decide_true, cond_true, inb_lt hj, grd_true, at_lt hj, l1In_, Option.bind_some, w64_succ (show j < 4611686018427387904 by omega)]
 rw [w64_id (by omega) (by omega)]
 unfold selC
 by_cases h : 0 ≤ ix[j] ∧ ix[j] ≤ (l.length : Int) - 1
 ·have h2 := at_len hl h.1 (by omega)
  rw [decide_eq_true h, cond_true, if_pos h, inb_int h.1 (by omega), grd_true, appOk_of (by simp; omega), grd_true, appOk_of (by simp; omega), grd_true]
 ·rw [decide_eq_false h, cond_false, if_neg h, List.append_nil]
theorem implSelect {N : Nat} {l : List (List Int)} {ix : List Int} (hl : b_IntSS l) (hx : ix.length ≤ 1048576) (hN : 1048576 < N) : impl_SelectClauses N l ix = some (selL l ix) := by
 have hll : l.length ≤ 1048576 := hl.1
 unfold impl_SelectClauses impl_SelectClauses_b
 refine collect (a := ix) (selC l) (f := fun k out i => impl_SelectClauses_l0 N k l out ix (ix.length : Int) i) (fun x _ => selC_len l x) (fun k out => by simp [impl_SelectClauses_l0, impl_SelectClauses_l0_b]) (fun k out j hj ho => ?_) (by omega)
 have h1 : (j : Int) < (ix.length : Int) := by omega
 simp only [impl_SelectClauses_l0, impl_SelectClauses_l0_b, h1, decide_true, cond_true, inb_lt hj, grd_true, at_lt hj, within_, Option.bind_some, w64_succ (show j < 4611686018427387904 by omega)]
 rw [w64_id (by omega) (by omega)]
 unfold selC
 by_cases h : 0 ≤ ix[j] ∧ ix[j] ≤ (l.length : Int) - 1
 ·have h2 := at_len hl h.1 (by omega)
  rw [decide_eq_true h, cond_true, if_pos h, inb_int h.1 (by omega), grd_true, appOk_of (by simp; omega), grd_true, appOk_of (by simp; omega), grd_true]
 ·rw [decide_eq_false h, cond_false, if_neg h, List.append_nil]

/-- What marks cost. -/
theorem cost_le {α : Type} {c : α → Nat} {n : Nat} : ∀ {a : List α}, (∀ x ∈ a, c x ≤ n) → costL c a ≤ a.length * n
 | [], _ => by simp [costL]
 | x :: a, h => by
  have h1 := h x (by simp)
  have h2 := cost_le (a := a) fun y hy => h y (by simp [hy])
  simp only [costL, List.map_cons, List.sum_cons, List.length_cons] at h2 ⊢
  rw [Nat.add_mul]; omega
theorem c_IntS_eq (a : List Int) : c_IntS a = a.length := by
 unfold c_IntS costL
 have : ce_IntS = fun _ => 1 := rfl
 rw [this]
 induction a with
 | nil => rfl
 | cons x a ih => simp only [List.map_cons, List.sum_cons, List.length_cons, ih]; omega
theorem c_IntSS_le {a : List (List Int)} (h : b_IntSS a) : c_IntSS a ≤ 1099511627776 := by
 have := cost_le (c := ce_IntSS) (n := 1048576) (a := a) fun x hx => by
  show c_IntS x ≤ 1048576
  rw [c_IntS_eq]; exact h.2 x hx
 have h2 : a.length ≤ 1048576 := h.1
 exact Nat.le_trans this (Nat.le_trans (Nat.mul_le_mul_right 1048576 h2) (by decide))
end Go.PL
namespace Go.PL
set_option linter.unusedVariables false
end Go.PL
namespace Go.PL
set_option linter.unusedVariables false
theorem getD_lt {α : Type} {d : α} {j : Nat} {xs : List α} (h : j < xs.length) : xs.getD j d = xs[j] := by simp [h]
theorem all_iff {α : Type} {d : α} {xs : List α} {p : α → Bool} : (∀ j, j < xs.length → p (xs.getD j d) = true) ↔ xs.all p = true := by
 rw [List.all_eq_true]
 constructor
 ·intro h x hx
  obtain ⟨i, hi, rfl⟩ := List.mem_iff_getElem.1 hx
  have := h i hi
  rwa [getD_lt hi] at this
 ·intro h j hj
  rw [getD_lt hj]
  exact h _ (List.getElem_mem hj)
theorem getD_any {α : Type} (d : α) {xs : List α} {p : α → Bool} : (∃ j, j < xs.length ∧ p (xs.getD j d) = true) ↔ xs.any p = true := by
 rw [List.any_eq_true]
 constructor
 ·rintro ⟨j, hj, h⟩
  rw [getD_lt hj] at h
  exact ⟨_, List.getElem_mem hj, h⟩
 ·rintro ⟨x, hx, h⟩
  obtain ⟨i, hi, rfl⟩ := List.mem_iff_getElem.1 hx
  exact ⟨i, hi, by rw [getD_lt hi]; exact h⟩
/-- 'Is there one of which it holds': the first index is not negative. -/
theorem contains_of {α : Type} {d : α} {xs : List α} {p : α → Bool} {g : Option Int} (h : (∃ j, j < xs.length ∧ p (xs.getD j d) = true ∧ (∀ i, i < j → p (xs.getD i d) = false) ∧ g = some (j : Int)) ∨ ((∀ i, i < xs.length → p (xs.getD i d) = false) ∧ g = some (-1))) : (g.bind fun r => some (decide (r ≥ 0))) = some (xs.any p) := by
 rcases h with ⟨j, h1, h2, _, rfl⟩ | ⟨h1, rfl⟩
 ·rw [(getD_any d).1 ⟨j, h1, h2⟩]
  simp
 ·have : xs.any p = false := by
   rw [Bool.eq_false_iff]
   intro h
   obtain ⟨j, hj, h2⟩ := (getD_any d).2 h
   rw [h1 j hj] at h2; simp at h2
  rw [this]; rfl

end Go.PL
namespace Go.PL
set_option linter.unusedVariables false
section
variable (S : Nat → Nat → Bool)
variable {S}
end
end Go.PL
namespace Go.PL
set_option linter.unusedVariables false
theorem subOk_true {lo hi : Int} {n : Nat} (h1 : 0 ≤ lo) (h2 : lo ≤ hi) (h3 : hi ≤ (n : Int)) : subOk lo hi n = true := by
 unfold subOk; rw [decide_eq_true h1, decide_eq_true h2, decide_eq_true h3]; rfl
end Go.PL
namespace Go.PL
set_option linter.unusedVariables false
def toI (l : List Nat) : List Int := l.map fun (n : Nat) => (n : Int)
theorem toI_length (l : List Nat) : (toI l).length = l.length := by simp [toI]
theorem toI_append (a b : List Nat) : toI (a ++ b) = toI a ++ toI b := by simp [toI]
end Go.PL
namespace Go.PL
set_option linter.unusedVariables false
end Go.PL
namespace Go.PL
set_option linter.unusedVariables false
end Go.PL
namespace Go.PL
set_option linter.unusedVariables false
end Go.PL
namespace Go.PL
set_option linter.unusedVariables false
end Go.PL
namespace Go.PL
set_option linter.unusedVariables false
def one (p : Int → Bool) (x : Int) : Int := if p x then 1 else 0
end Go.PL
namespace Go.PL
set_option linter.unusedVariables false
end Go.PL
namespace Go.PL
set_option linter.unusedVariables false
end Go.PL
namespace Go.PL
set_option linter.unusedVariables false
theorem any_contains (s : List Int) (v : Int) : (s.any fun x => decide (v = x)) = decide (v ∈ s) := by
 induction s with
 | nil => rfl
 | cons x s ih => simp only [List.any_cons, ih, List.mem_cons, Bool.decide_or]
theorem implHas {N : Nat} {s : List Int} {v : Int} (hs : s.length ≤ 1048576) (hN : 1048576 < N) : slices_Contains_Lint_int N s v = some (decide (v ∈ s)) := by
 unfold slices_Contains_Lint_int slices_Index_Lint_int slices_Index_Lint_int_b
 rw [contains_of (d := (0 : Int)) (xs := s) (p := fun x => decide (v = x)) (first (n := s.length) (fun j => decide (v = s.getD j 0)) (fun k i => slices_Index_Lint_int_l0 N k s v (s.length : Int) i) (fun k => by simp [slices_Index_Lint_int_l0, slices_Index_Lint_int_l0_b]) (fun k j hj => ?_) (by omega)), any_contains]
 have h1 : (j : Int) < (s.length : Int) := by omega
 simp only [slices_Index_Lint_int_l0, slices_Index_Lint_int_l0_b, h1, decide_true, cond_true, inb_lt hj, grd_true, at_lt hj, getD_lt hj, w64_succ (show j < 4611686018427387904 by omega), beqI]
 cases decide (v = s[j]) <;> rfl
theorem specHas {N : Nat} {s : List Int} {v : Int} (hs : s.length ≤ 1048576) (hN : 1048576 < N) : spec_l7Has N s v = some (decide (v ∈ s)) := by
 unfold spec_l7Has spec_l7Has_b
 rw [everyE (n := s.length) (fun j => !decide (s.getD j 0 = v)) (some true) (some false) (fun k i => spec_l7Has_l0 N k s v i) (fun k => by simp [spec_l7Has_l0, spec_l7Has_l0_b]) (fun k j hj => ?_) (by omega)]
 ·by_cases h : v ∈ s
  ·rw [decide_eq_true h]
   obtain ⟨j, hj, rfl⟩ := List.mem_iff_getElem.1 h
   rw [if_neg (fun h' => by have := h' j hj; rw [getD_lt hj] at this; simp at this)]
  ·rw [decide_eq_false h, if_pos (fun j hj => by
    rw [getD_lt hj]
    have : ¬ s[j] = v := fun e => h (e ▸ List.getElem_mem hj)
    simp [this])]
 ·have h1 : (j : Int) < (s.length : Int) := by omega
  simp only [spec_l7Has_l0, spec_l7Has_l0_b, h1, decide_true, cond_true, inb_lt hj, grd_true, at_lt hj, getD_lt hj, w64_succ (show j < 4611686018427387904 by omega), beqI]
  cases decide (s[j] = v) <;> simp

def litV (n x : Int) : Bool := bif decide (x < 0) then (bif decide (x ≥ w64 (0 - n)) then decide (1 ≤ w64 (0 - x) ∧ w64 (0 - x) ≤ n) else decide (1 ≤ imax x 0 ∧ imax x 0 ≤ n)) else decide (1 ≤ imax x 0 ∧ imax x 0 ≤ n)
def newV (c : List Int) (j : Nat) : Bool := decide (∀ k, k < j → (!(decide (c.getD k 0 = c.getD j 0)) && !(decide (c.getD k 0 = w64 (0 - c.getD j 0)))) = true)
def clauseV (n : Int) (c : List Int) : Bool := decide (∀ j, j < c.length → (litV n (c.getD j 0) && newV c j) = true)
theorem specClause {N : Nat} {n : Int} {c : List Int} (hc : c.length ≤ 1048576) (hN : 1048576 < N) : spec_l20Clause N n c = some (clauseV n c) := by
 unfold spec_l20Clause spec_l20Clause_b clauseV
 rw [everyE (n := c.length) (fun j => litV n (c.getD j 0) && newV c j) (some false) (some true) (fun k i => spec_l20Clause_l0 N k n c i) (fun k => by simp [spec_l20Clause_l0, spec_l20Clause_l0_b]) (fun k j hj => ?_) (by omega)]
 ·split
  ·rename_i h; rw [decide_eq_true h]
  ·rename_i h; rw [decide_eq_false h]
 ·have h1 : (j : Int) < (c.length : Int) := by omega
  have inner : spec_l20Clause_l1 (spec_l20Clause_l0 N k) N N n c (j : Int) 0 = if newV c j = true then spec_l20Clause_l0 N k n c ((j + 1 : Nat) : Int) else some false := by
   rw [everyE (n := j) (fun q => !(decide (c.getD q 0 = c.getD j 0)) && !(decide (c.getD q 0 = w64 (0 - c.getD j 0)))) (some false) (spec_l20Clause_l0 N k n c ((j + 1 : Nat) : Int)) (fun f q => spec_l20Clause_l1 (spec_l20Clause_l0 N k) N f n c (j : Int) q) (fun f => by
    simp only [spec_l20Clause_l1, spec_l20Clause_l1_b, Int.lt_irrefl, decide_false, cond_false, w64_succ (show j < 4611686018427387904 by omega)]) (fun f q hq => ?_) (by omega)]
   ·unfold newV
    by_cases h : ∀ k, k < j → (!(decide (c.getD k 0 = c.getD j 0)) && !(decide (c.getD k 0 = w64 (0 - c.getD j 0)))) = true
    ·rw [if_pos h, decide_eq_true h]; rfl
    ·rw [if_neg h, decide_eq_false h]; rfl
   ·have hq1 : (q : Int) < (j : Int) := by omega
    have hq2 : q < c.length := by omega
    simp only [spec_l20Clause_l1, spec_l20Clause_l1_b, hq1, decide_true, cond_true, inb_lt hq2, inb_lt hj, grd_true, at_lt hq2, at_lt hj, getD_lt hq2, getD_lt hj, beqI, w64_succ (show q < 4611686018427387904 by omega)]
    cases decide (c[q] = c[j]) <;> cases decide (c[q] = w64 (0 - c[j])) <;> rfl
  simp only [spec_l20Clause_l0, spec_l20Clause_l0_b, h1, decide_true, cond_true, inb_lt hj, grd_true, at_lt hj, getD_lt hj, l1In_, Option.bind_some, inner]
  unfold litV
  cases decide (c[j] < 0) with
  | false => simp only [cond_false]; cases decide (1 ≤ imax c[j] 0 ∧ imax c[j] 0 ≤ n) <;> simp
  | true =>
   simp only [cond_true]
   cases decide (c[j] ≥ w64 (0 - n)) with
   | false => simp only [cond_false]; cases decide (1 ≤ imax c[j] 0 ∧ imax c[j] 0 ≤ n) <;> simp
   | true => simp only [cond_true]; cases decide (1 ≤ w64 (0 - c[j]) ∧ w64 (0 - c[j]) ≤ n) <;> simp
theorem litV_eq {n x : Int} (h0 : 0 ≤ n) (h1 : n ≤ 14) (hx : -9223372036854775808 ≤ x ∧ x ≤ 9223372036854775807) : litV n x = (!decide (x = 0) && decide (-n ≤ x ∧ x ≤ n)) := by
 unfold litV
 rw [w64_id (x := 0 - n) (by omega) (by omega)]
 by_cases hn : x < 0
 ·rw [decide_eq_true hn, cond_true]
  by_cases h2 : x ≥ 0 - n
  ·rw [decide_eq_true h2, cond_true, w64_id (x := 0 - x) (by omega) (by omega)]
   have e1 : (1 ≤ 0 - x ∧ 0 - x ≤ n) := by omega
   have e2 : ¬ x = 0 := by omega
   have e3 : -n ≤ x ∧ x ≤ n := by omega
   rw [decide_eq_true e1, decide_eq_false e2, decide_eq_true e3]; rfl
  ·have e3 : ¬ (-n ≤ x ∧ x ≤ n) := by omega
   have e4 : imax x 0 = 0 := by unfold imax; split <;> omega
   rw [decide_eq_false h2, cond_false, e4, decide_eq_false e3]; simp
 ·rw [decide_eq_false hn, cond_false]
  have e4 : imax x 0 = x := by unfold imax; split <;> omega
  rw [e4]
  by_cases h2 : x = 0
  ·subst h2; simp
  ·have : (1 ≤ x ∧ x ≤ n) ↔ (-n ≤ x ∧ x ≤ n) := by omega
   simp [h2, decide_eq_decide.2 this]
theorem implClause {N : Nat} {n : Int} {c : List Int} (h0 : 0 ≤ n) (h1 : n ≤ 14) (hi : in_IntS c) (hc : c.length ≤ 1048576) (hN : 1048576 < N) : impl_isClause N n c = some (clauseV n c) := by
 unfold impl_isClause impl_isClause_b clauseV
 rw [everyE (n := c.length) (fun j => litV n (c.getD j 0) && newV c j) (some false) (some true) (fun k i => impl_isClause_l0 N k n c c (c.length : Int) i) (fun k => by simp [impl_isClause_l0, impl_isClause_l0_b]) (fun k j hj => ?_) (by omega)]
 ·split
  ·rename_i h; rw [decide_eq_true h]
  ·rename_i h; rw [decide_eq_false h]
 ·have h2 : (j : Int) < (c.length : Int) := by omega
  have hx := hi.2 _ (List.getElem_mem hj)
  have hx : -9223372036854775808 ≤ c[j] ∧ c[j] ≤ 9223372036854775807 := hx
  have so : subOk 0 (j : Int) c.length = true := subOk_true (by omega) (by omega) (by omega)
  have ht : (c.take j).length ≤ 1048576 := by rw [List.length_take]; omega
  simp only [impl_isClause_l0, impl_isClause_l0_b, h2, decide_true, cond_true, inb_lt hj, grd_true, at_lt hj, within_, Option.bind_some, so, Int.toNat_natCast, implHas ht hN, getD_lt hj, beqI, w64_succ (show j < 4611686018427387904 by omega)]
  rw [litV_eq h0 h1 hx, w64_id (x := 0 - n) (by omega) (by omega), show (0 : Int) - n = -n by omega]
  have hnew : newV c j = (!decide (c[j] ∈ c.take j) && !decide (w64 (0 - c[j]) ∈ c.take j)) := by
   unfold newV
   rw [getD_lt hj]
   by_cases ha : c[j] ∈ c.take j
   ·rw [decide_eq_true ha]
    obtain ⟨q, hq, e⟩ := List.mem_iff_getElem.1 ha
    have hq' : q < j := by rw [List.length_take] at hq; omega
    rw [decide_eq_false (fun h' => by
     have := h' q hq'
     rw [List.getElem_take] at e
     rw [getD_lt (show q < c.length by omega), e] at this
     simp at this)]
    rfl
   ·rw [decide_eq_false ha]
    by_cases hb : w64 (0 - c[j]) ∈ c.take j
    ·rw [decide_eq_true hb]
     obtain ⟨q, hq, e⟩ := List.mem_iff_getElem.1 hb
     have hq' : q < j := by rw [List.length_take] at hq; omega
     rw [decide_eq_false (fun h' => by
      have := h' q hq'
      rw [List.getElem_take] at e
      rw [getD_lt (show q < c.length by omega), e] at this
      simp at this)]
     rfl
    ·rw [decide_eq_false hb, decide_eq_true (fun q hq => by
      have hm : c[q] ∈ c.take j := List.mem_iff_getElem.2 ⟨q, by rw [List.length_take]; omega, List.getElem_take⟩
      have e1 : ¬ c[q] = c[j] := fun e => ha (e ▸ hm)
      have e2 : ¬ c[q] = w64 (0 - c[j]) := fun e => hb (e ▸ hm)
      rw [getD_lt (show q < c.length by omega)]
      rw [decide_eq_false e1, decide_eq_false e2]; rfl)]
     rfl
  rw [hnew]
  cases decide (c[j] = 0) <;> cases decide (-n ≤ c[j] ∧ c[j] ≤ n) <;> cases decide (c[j] ∈ c.take j) <;> cases decide (w64 (0 - c[j]) ∈ c.take j) <;> rfl

/-- Literals of numbers up to n, one for each at most. -/
structure Good (n : Int) (c : List Int) : Prop where
 lit : ∀ x ∈ c, x ≠ 0 ∧ -n ≤ x ∧ x ≤ n
 one : c.Pairwise fun x y => x ≠ y ∧ x ≠ -y
theorem good_of {n : Int} {c : List Int} (h0 : 0 ≤ n) (h1 : n ≤ 14) (hi : in_IntS c) (h : clauseV n c = true) : Good n c := by
 have h := of_decide_eq_true h
 have hl : ∀ x ∈ c, x ≠ 0 ∧ -n ≤ x ∧ x ≤ n := by
  intro x hx
  obtain ⟨j, hj, rfl⟩ := List.mem_iff_getElem.1 hx
  have h2 := h j hj
  rw [getD_lt hj, litV_eq h0 h1 (hi.2 _ (List.getElem_mem hj))] at h2
  simp only [Bool.and_eq_true, Bool.not_eq_true', decide_eq_false_iff_not, decide_eq_true_eq] at h2
  exact h2.1
 refine ⟨hl, List.pairwise_iff_getElem.2 fun q j hq hj hqj => ?_⟩
 have h2 := h j hj
 simp only [Bool.and_eq_true] at h2
 have h3 := of_decide_eq_true h2.2 q hqj
 have hb := hl _ (List.getElem_mem hj)
 rw [getD_lt hj, getD_lt hq, w64_id (by omega) (by omega)] at h3
 simp only [Bool.and_eq_true, Bool.not_eq_true', decide_eq_false_iff_not] at h3
 exact ⟨h3.1, fun e => h3.2 (by omega)⟩
theorem nodup_le : ∀ (n : Nat) (l : List Nat), l.Nodup → (∀ x ∈ l, 1 ≤ x ∧ x ≤ n) → l.length ≤ n
 | 0, l, _, h => by
  cases l with
  | nil => simp
  | cons x l => have := h x (by simp); omega
 | n + 1, l, hn, h => by
  have := nodup_le n (l.erase (n + 1)) (hn.erase _) (fun x hx => by
   have h1 := (hn.mem_erase_iff).1 hx
   have := h x h1.2
   have := h1.1
   omega)
  rw [List.length_erase] at this
  split at this <;> omega
theorem Good.few {n : Int} {c : List Int} (h0 : 0 ≤ n) (h : Good n c) : (c.length : Int) ≤ n := by
 have := nodup_le n.toNat (c.map Int.natAbs) (by
  unfold List.Nodup
  rw [List.pairwise_map]
  exact h.one.imp (fun {x y} hxy e => by omega)) (fun x hx => by
  obtain ⟨y, hy, rfl⟩ := List.mem_map.1 hx
  have := h.lit y hy
  omega)
 rw [List.length_map] at this
 omega
end Go.PL
namespace Go.PL
set_option linter.unusedVariables false
def neg (l : List Int) : List Int := l.map fun x => -x
def met (c out : List Int) : Bool := c.any fun x => decide (x ∈ out)
def left (c out : List Int) : List Int := c.filter fun x => !decide (-x ∈ out)
def scan : List (List Int) → List Int → Option (Option Int)
 | [], _ => none
 | c :: L, out => if met c out then scan L out else match left c out with
  | [] => some none
  | [x] => some (some x)
  | _ :: _ :: _ => scan L out
def propF : Nat → List (List Int) → List Int → List Int × Bool
 | 0, _, out => (out, false)
 | k + 1, L, out => match scan L out with
  | none => (out, false)
  | some none => (out, true)
  | some (some x) => propF k L (out ++ [x])

theorem Good.neg {n : Int} {c : List Int} (h : Good n c) : Good n (neg c) := by
 refine ⟨fun x hx => ?_, ?_⟩
 ·obtain ⟨y, hy, rfl⟩ := List.mem_map.1 hx
  have := h.lit y hy
  omega
 ·unfold Go.PL.neg
  rw [List.pairwise_map]
  exact h.one.imp (fun {x y} hxy => ⟨fun e => hxy.1 (by omega), fun e => hxy.2 (by omega)⟩)
theorem Good.add {n : Int} {out c : List Int} {x : Int} (h : Good n out) (hc : Good n c) (hx : left c out = [x]) (hm : met c out = false) : Good n (out ++ [x]) := by
 have hxc : x ∈ left c out := by rw [hx]; simp
 obtain ⟨h1, h2⟩ := List.mem_filter.1 hxc
 have h3 : ¬ x ∈ out := fun h' => by
  have : met c out = true := List.any_eq_true.2 ⟨x, h1, decide_eq_true h'⟩
  rw [this] at hm; cases hm
 have h4 : ¬ -x ∈ out := by simpa using h2
 refine ⟨fun y hy => ?_, ?_⟩
 ·rcases List.mem_append.1 hy with hy | hy
  ·exact h.lit y hy
  ·obtain rfl : y = x := by simpa using hy
   exact hc.lit _ h1
 ·rw [List.pairwise_append]
  refine ⟨h.one, by simp, fun y hy z hz => ?_⟩
  obtain rfl : z = x := by simpa using hz
  exact ⟨fun e => h3 (e ▸ hy), fun e => h4 (e ▸ hy)⟩
theorem scan_unit {n : Int} : ∀ {L : List (List Int)} {out : List Int} {x : Int}, (∀ c ∈ L, Good n c) → Good n out → scan L out = some (some x) → Good n (out ++ [x])
 | [], out, x, _, _, h => by simp [scan] at h
 | c :: L, out, x, hL, ho, h => by
  unfold scan at h
  split at h
  ·exact scan_unit (fun c hc => hL c (by simp [hc])) ho h
  ·rename_i hm
   split at h
   ·simp at h
   ·rename_i y hy
    obtain rfl : y = x := by simpa using h
    exact ho.add (hL c (by simp)) hy (by simpa using hm)
   ·exact scan_unit (fun c hc => hL c (by simp [hc])) ho h

theorem negs {c : List Int} {n : Int} (h1 : n ≤ 14) (h : Good n c) : c.flatMap (fun x => [w64 (0 - x)]) = neg c := by
 unfold neg
 rw [List.flatMap_def, ← List.flatMap_def]
 induction c with
 | nil => rfl
 | cons x c ih =>
  have hx := h.lit x (by simp)
  rw [List.flatMap_cons, List.map_cons, ih ⟨fun y hy => h.lit y (by simp [hy]), (List.pairwise_cons.1 h.one).2⟩, w64_id (by omega) (by omega), show (0 : Int) - x = -x by omega]
  rfl
theorem specNeg {N : Nat} {c : List Int} {n : Int} (h0 : 0 ≤ n) (h1 : n ≤ 14) (h : Good n c) (hN : 1048576 < N) : spec_NegateLiterals N c = some (neg c) := by
 have hl := h.few h0
 unfold spec_NegateLiterals spec_NegateLiterals_b
 rw [← negs h1 h]
 refine collect (a := c) (fun x => [w64 (0 - x)]) (f := fun k out i => spec_NegateLiterals_l0 N k c out i) (fun x _ => by simp) (fun k out => by simp [spec_NegateLiterals_l0, spec_NegateLiterals_l0_b]) (fun k out j hj ho => ?_) (by omega)
 have h1 : (j : Int) < (c.length : Int) := by omega
 simp only [spec_NegateLiterals_l0, spec_NegateLiterals_l0_b, h1, decide_true, cond_true, inb_lt hj, grd_true, at_lt hj, w64_succ (show j < 4611686018427387904 by omega)]
 rw [appOk_of (by simp only [List.length_singleton]; omega), grd_true]
theorem implNeg {N : Nat} {c : List Int} {n : Int} (h0 : 0 ≤ n) (h1 : n ≤ 14) (h : Good n c) (hN : 1048576 < N) : impl_NegateLiterals N c = some (neg c) := by
 have hl := h.few h0
 unfold impl_NegateLiterals impl_NegateLiterals_b
 rw [← negs h1 h]
 refine collect (a := c) (fun x => [w64 (0 - x)]) (f := fun k out i => impl_NegateLiterals_l0 N k out c (c.length : Int) i) (fun x _ => by simp) (fun k out => by simp [impl_NegateLiterals_l0, impl_NegateLiterals_l0_b]) (fun k out j hj ho => ?_) (by omega)
 have h1 : (j : Int) < (c.length : Int) := by omega
 simp only [impl_NegateLiterals_l0, impl_NegateLiterals_l0_b, h1, decide_true, cond_true, inb_lt hj, grd_true, at_lt hj, w64_succ (show j < 4611686018427387904 by omega)]
 rw [appOk_of (by simp only [List.length_singleton]; omega), grd_true]

theorem specLeft {N : Nat} {n : Int} {c out : List Int} (h0 : 0 ≤ n) (h1 : n ≤ 14) (hc : Good n c) (ho : Good n out) (hN : 1048576 < N) : ∃ o, spec_l21Left N c out = some (o, met c out) ∧ (met c out = false → o = left c out) := by
 have hl := hc.few h0
 have hlo := ho.few h0
 unfold spec_l21Left spec_l21Left_b
 have := loop (fun k (s : List Int × Nat) => spec_l21Left_l0 N k c out s.1 (s.2 : Int)) (fun s => s.2 ≤ c.length ∧ s.1 = left (c.take s.2) out ∧ met (c.take s.2) out = false) (fun s => c.length - s.2) (fun r => ∃ o, r = some (o, met c out) ∧ (met c out = false → o = left c out)) (fun k s hs => by
  obtain ⟨l, j⟩ := s
  obtain ⟨k1, k2, k3⟩ := hs
  simp only at k1 k2 k3 ⊢
  by_cases hj : j < c.length
  ·have e1 : (j : Int) < (c.length : Int) := by omega
   have hx := hc.lit _ (List.getElem_mem hj)
   have hlen : l.length ≤ 14 := by
    rw [k2]; have := List.length_filter_le (fun x => !decide (-x ∈ out)) (c.take j); rw [List.length_take] at this; unfold left; omega
   simp only [spec_l21Left_l0, spec_l21Left_l0_b, e1, decide_true, cond_true, inb_lt hj, grd_true, at_lt hj, specHas (s := out) (by omega) hN, Option.bind_some, w64_succ (show j < 4611686018427387904 by omega)]
   rw [w64_id (by omega) (by omega), show (0 : Int) - c[j] = -c[j] by omega, appOk_of (by simp only [List.length_singleton]; omega), grd_true]
   by_cases hm : c[j] ∈ out
   ·left
    have hme : met c out = true := List.any_eq_true.2 ⟨c[j], List.getElem_mem hj, decide_eq_true hm⟩
    rw [decide_eq_true hm, cond_true, hme]
    exact ⟨_, rfl, fun h => by cases h⟩
   ·right
    have et := List.take_succ_eq_append_getElem hj
    refine ⟨(left (c.take (j + 1)) out, j + 1), ⟨hj, rfl, ?_⟩, by simp only; omega, ?_⟩
    ·rw [et]; unfold met at k3 ⊢; rw [List.any_append, k3]; simp [hm]
    ·rw [decide_eq_false hm, cond_false]
     by_cases hn : -c[j] ∈ out
     ·rw [decide_eq_true hn, Bool.not_true, cond_false, et, k2]; unfold left; rw [List.filter_append]; simp [hn]
     ·rw [decide_eq_false hn, Bool.not_false, cond_true, et, k2]; unfold left; rw [List.filter_append]; simp [hn]
  ·left
   have : j = c.length := by omega
   subst this
   rw [List.take_length] at k2 k3
   rw [k3]
   refine ⟨l, ?_, fun _ => k2⟩
   simp only [spec_l21Left_l0, spec_l21Left_l0_b, Int.lt_irrefl, decide_false, cond_false]) N ([], 0) (by simp only; omega) ⟨by simp, by simp [left], by simp [met]⟩
 exact this
theorem mem_neg (x : Int) (out : List Int) : x ∈ neg out ↔ -x ∈ out := by
 unfold neg
 rw [List.mem_map]
 exact ⟨fun ⟨y, hy, e⟩ => by rw [← e]; simpa using hy, fun h => ⟨-x, h, by omega⟩⟩
theorem implLeft {N : Nat} {n : Int} {c out : List Int} (h0 : 0 ≤ n) (h1 : n ≤ 14) (hc : Good n c) (ho : Good n out) (hN : 1048576 < N) : impl_without N c (neg out) = some (left c out) := by
 have hl := hc.few h0
 have hlo := ho.few h0
 unfold impl_without impl_without_b left
 have hnl : (neg out).length ≤ 1048576 := by unfold neg; rw [List.length_map]; omega
 have e : c.flatMap (fun x => if decide (-x ∈ out) then [] else [x]) = c.filter fun x => !decide (-x ∈ out) := by
  induction c with
  | nil => rfl
  | cons x c ih =>
   rw [List.flatMap_cons, List.filter_cons, ih ⟨fun y hy => hc.lit y (by simp [hy]), (List.pairwise_cons.1 hc.one).2⟩ (by simp only [List.length_cons] at hl; omega)]
   cases decide (-x ∈ out) <;> rfl
 rw [← e]
 refine collect (a := c) (fun x => if decide (-x ∈ out) then [] else [x]) (f := fun k o i => impl_without_l0 N k (neg out) o c (c.length : Int) i) (fun x _ => by split <;> simp) (fun k o => by simp [impl_without_l0, impl_without_l0_b]) (fun k o j hj ho => ?_) (by omega)
 have h1 : (j : Int) < (c.length : Int) := by omega
 simp only [impl_without_l0, impl_without_l0_b, h1, decide_true, cond_true, inb_lt hj, grd_true, at_lt hj, implHas hnl hN, Option.bind_some, w64_succ (show j < 4611686018427387904 by omega), decide_eq_decide.2 (mem_neg c[j] out)]
 rw [appOk_of (by simp only [List.length_singleton]; omega), grd_true]
 cases decide (-c[j] ∈ out) <;> simp
theorem implMet {N : Nat} {n : Int} {c out : List Int} (h0 : 0 ≤ n) (h1 : n ≤ 14) (hc : Good n c) (ho : Good n out) (hN : 1048576 < N) : slices_ContainsFunc_Lint_int_propagate_c1 N c out = some (met c out) := by
 have hl := hc.few h0
 have hlo := ho.few h0
 unfold slices_ContainsFunc_Lint_int_propagate_c1 slices_IndexFunc_Lint_int_propagate_c1 slices_IndexFunc_Lint_int_propagate_c1_b
 rw [contains_of (d := (0 : Int)) (xs := c) (p := fun x => decide (x ∈ out)) (first (n := c.length) (fun j => decide (c.getD j 0 ∈ out)) (fun k i => slices_IndexFunc_Lint_int_propagate_c1_l0 N k c out (c.length : Int) i) (fun k => by simp [slices_IndexFunc_Lint_int_propagate_c1_l0, slices_IndexFunc_Lint_int_propagate_c1_l0_b]) (fun k j hj => ?_) (by omega))]
 ·rfl
 ·have h1 : (j : Int) < (c.length : Int) := by omega
  simp only [slices_IndexFunc_Lint_int_propagate_c1_l0, slices_IndexFunc_Lint_int_propagate_c1_l0_b, h1, decide_true, cond_true, inb_lt hj, grd_true, at_lt hj, impl_propagate_c1, implHas (s := out) (by omega) hN, Option.bind_some, getD_lt hj, w64_succ (show j < 4611686018427387904 by omega)]
  cases decide (c[j] ∈ out) <;> rfl

theorem specScan {N : Nat} {n : Int} {L : List (List Int)} (h0 : 0 ≤ n) (h1 : n ≤ 14) (hL : ∀ c ∈ L, Good n c) (hl : L.length ≤ 4194304) (hN : 1048576 < N) {out : List Int} (ho : Good n out) (R : List (List Int) → List Int → Bool → Option (List Int × Bool)) :
  ∀ {k j : Nat}, L.length - j + 1 < k → j ≤ L.length → spec_l21Units_l1 R N k L out false (j : Int) = match scan (L.drop j) out with
   | none => R L out false
   | some none => some (out, true)
   | some (some x) => R L (out ++ [x]) true
 | 0, j, hk, _ => by omega
 | k + 1, j, hk, hj => by
  have hlo := ho.few h0
  by_cases h : j < L.length
  ·have e1 : (j : Int) < (L.length : Int) := by omega
   obtain ⟨o, q1, q2⟩ := specLeft h0 h1 (hL _ (List.getElem_mem h)) ho hN
   have ih := specScan h0 h1 hL hl hN ho R (k := k) (j := j + 1) (by omega) (by omega)
   rw [List.drop_eq_getElem_cons h]
   simp only [spec_l21Units_l1, spec_l21Units_l1_b, e1, decide_true, cond_true, Bool.not_false, inb_lt h, grd_true, at_lt h, q1, Option.bind_some, w64_succ (show j < 4611686018427387904 by omega)]
   unfold scan
   cases hm : met L[j] out with
   | true => rw [cond_true, if_pos rfl]; exact ih
   | false =>
    rw [cond_false, if_neg (by simp), q2 hm]
    cases hle : left L[j] out with
    | nil => rfl
    | cons x r =>
     cases r with
     | nil =>
      have a0 : at_ 0 [x] 0 = x := at_lt (j := 0) (by simp)
      have i0 : inb 0 [x] = true := inb_lt (j := 0) (by simp)
      simp only [List.length_cons, List.length_nil, a0, i0, grd_true]
      rw [appOk_of (by simp only [List.length_singleton]; omega), grd_true]
      obtain ⟨k, rfl⟩ : ∃ k', k = k' + 1 := ⟨k - 1, by omega⟩
      have : ∀ (b : Bool), (bif b then (none : Option (List Int × Bool)) else none) = none := by intro b; cases b <;> rfl
      show (bif ((((0 + 1 : Nat) : Int)) == 0) then _ else bif ((((0 + 1 : Nat) : Int)) == 1) then spec_l21Units_l1 R N (k + 1) L (out ++ [x]) true ((j + 1 : Nat) : Int) else _) = _
      rw [show ((((0 + 1 : Nat) : Int)) == 0) = false from rfl, show ((((0 + 1 : Nat) : Int)) == 1) = true from rfl, cond_false, cond_true]
      simp only [spec_l21Units_l1, spec_l21Units_l1_b, Bool.not_true, cond_false]
      cases decide (((j + 1 : Nat) : Int) < (L.length : Int)) <;> rfl
     | cons y r =>
      have n0 : (((x :: y :: r).length : Int) == 0) = false := by simp only [beqI, List.length_cons]; exact decide_eq_false (by omega)
      have n1 : (((x :: y :: r).length : Int) == 1) = false := by simp only [beqI, List.length_cons]; exact decide_eq_false (by omega)
      simp only [n0, n1, cond_false]
      exact ih
  ·have : j = L.length := by omega
   subst this
   simp only [spec_l21Units_l1, spec_l21Units_l1_b, Int.lt_irrefl, decide_false, cond_false, List.drop_length, scan]
theorem implScan {N : Nat} {n : Int} {L : List (List Int)} (h0 : 0 ≤ n) (h1 : n ≤ 14) (hL : ∀ c ∈ L, Good n c) (hl : L.length ≤ 4194304) (hN : 1048576 < N) {out : List Int} (ho : Good n out) (R : List (List Int) → List Int → Option (List Int × Bool)) :
  ∀ {k j : Nat}, L.length - j < k → j ≤ L.length → impl_propagate_l1 R N k L out false L (L.length : Int) (j : Int) = match scan (L.drop j) out with
   | none => some (out, false)
   | some none => some (out, true)
   | some (some x) => R L (out ++ [x])
 | 0, j, hk, _ => by omega
 | k + 1, j, hk, hj => by
  have hlo := ho.few h0
  by_cases h : j < L.length
  ·have e1 : (j : Int) < (L.length : Int) := by omega
   have hg := hL _ (List.getElem_mem h)
   have ih := implScan h0 h1 hL hl hN ho R (k := k) (j := j + 1) (by omega) (by omega)
   rw [List.drop_eq_getElem_cons h]
   simp only [impl_propagate_l1, impl_propagate_l1_b, e1, decide_true, cond_true, inb_lt h, grd_true, at_lt h, implMet h0 h1 hg ho hN, implNeg h0 h1 ho hN, implLeft h0 h1 hg ho hN, Option.bind_some, w64_succ (show j < 4611686018427387904 by omega)]
   unfold scan
   cases hm : met L[j] out with
   | true => rw [cond_true, if_pos rfl]; exact ih
   | false =>
    rw [cond_false, if_neg (by simp)]
    cases hle : left L[j] out with
    | nil => rfl
    | cons x r =>
     cases r with
     | nil =>
      have a0 : at_ 0 [x] 0 = x := at_lt (j := 0) (by simp)
      have i0 : inb 0 [x] = true := inb_lt (j := 0) (by simp)
      simp only [List.length_cons, List.length_nil, a0, i0, grd_true]
      rw [appOk_of (by simp only [List.length_singleton]; omega), grd_true]
      rfl
     | cons y r =>
      have n0 : (((x :: y :: r).length : Int) == 0) = false := by simp only [beqI, List.length_cons]; exact decide_eq_false (by omega)
      have n1 : (((x :: y :: r).length : Int) == 1) = false := by simp only [beqI, List.length_cons]; exact decide_eq_false (by omega)
      simp only [n0, n1, cond_false]
      exact ih
  ·have : j = L.length := by omega
   subst this
   simp only [impl_propagate_l1, impl_propagate_l1_b, Int.lt_irrefl, decide_false, cond_false, List.drop_length, scan, Bool.not_false, cond_true]
end Go.PL
namespace Go.PL
set_option linter.unusedVariables false
def prop (n : Int) (L : List (List Int)) (out : List Int) : List Int × Bool := propF (n.toNat - out.length + 1) L out
theorem specProp {N : Nat} {n : Int} {L : List (List Int)} (h0 : 0 ≤ n) (h1 : n ≤ 14) (hL : ∀ c ∈ L, Good n c) (hl : L.length ≤ 4194304) (hN : 8388608 < N) : ∀ (m : Nat) {out : List Int} {k : Nat}, Good n out → n.toNat - out.length = m → m + 1 < k → spec_l21Units_l0 N k L out true = some (propF (m + 1) L out)
 | m, out, 0, ho, hm, hk => by omega
 | m, out, k + 1, ho, hm, hk => by
  have hlo := ho.few h0
  have e := specScan (N := N) h0 h1 hL hl (by omega) ho (spec_l21Units_l0 N k) (k := N) (j := 0) (by omega) (by omega)
  simp only [spec_l21Units_l0, spec_l21Units_l0_b, cond_true]
  rw [show ((0 : Nat) : Int) = 0 from rfl, List.drop_zero] at e
  rw [e]
  obtain ⟨k, rfl⟩ : ∃ k', k = k' + 1 := ⟨k - 1, by omega⟩
  unfold propF
  cases hs : scan L out with
  | none => simp only [spec_l21Units_l0, spec_l21Units_l0_b, cond_false]
  | some y =>
   cases y with
   | none => rfl
   | some x =>
    have hg := scan_unit hL ho hs
    have hf := hg.few h0
    rw [List.length_append, List.length_singleton] at hf
    obtain ⟨m, rfl⟩ : ∃ m', m = m' + 1 := ⟨m - 1, by omega⟩
    exact specProp h0 h1 hL hl hN m hg (by rw [List.length_append, List.length_singleton]; omega) (by omega)
theorem implProp {N : Nat} {n : Int} {L : List (List Int)} (h0 : 0 ≤ n) (h1 : n ≤ 14) (hL : ∀ c ∈ L, Good n c) (hl : L.length ≤ 4194304) (hN : 8388608 < N) : ∀ (m : Nat) {out : List Int} {k : Nat}, Good n out → n.toNat - out.length = m → m < k → impl_propagate_l0 N k L out = some (propF (m + 1) L out)
 | m, out, 0, ho, hm, hk => by omega
 | m, out, k + 1, ho, hm, hk => by
  have hlo := ho.few h0
  have e := implScan (N := N) h0 h1 hL hl (by omega) ho (impl_propagate_l0 N k) (k := N) (j := 0) (by omega) (by omega)
  simp only [impl_propagate_l0, impl_propagate_l0_b]
  rw [show ((0 : Nat) : Int) = 0 from rfl, List.drop_zero] at e
  rw [e]
  unfold propF
  cases hs : scan L out with
  | none => rfl
  | some y =>
   cases y with
   | none => rfl
   | some x =>
    have hg := scan_unit hL ho hs
    have hf := hg.few h0
    rw [List.length_append, List.length_singleton] at hf
    obtain ⟨m, rfl⟩ : ∃ m', m = m' + 1 := ⟨m - 1, by omega⟩
    exact implProp h0 h1 hL hl hN m hg (by rw [List.length_append, List.length_singleton]; omega) (by omega)
theorem specUnits {N : Nat} {n : Int} {L : List (List Int)} {out : List Int} (h0 : 0 ≤ n) (h1 : n ≤ 14) (hL : ∀ c ∈ L, Good n c) (hl : L.length ≤ 4194304) (hN : 8388608 < N) (ho : Good n out) : spec_l21Units N L out = some (prop n L out) := by
 have hlo := ho.few h0
 unfold spec_l21Units spec_l21Units_b prop
 rw [appOk_of (by simp only [List.length_nil]; omega), grd_true]
 exact specProp h0 h1 hL hl hN _ ho rfl (by omega)
theorem implUnits {N : Nat} {n : Int} {L : List (List Int)} {out : List Int} (h0 : 0 ≤ n) (h1 : n ≤ 14) (hL : ∀ c ∈ L, Good n c) (hl : L.length ≤ 4194304) (hN : 8388608 < N) (ho : Good n out) : impl_propagate N L out = some (prop n L out) := by
 have hlo := ho.few h0
 unfold impl_propagate impl_propagate_b prop
 rw [appOk_of (by simp only [List.length_nil]; omega), grd_true]
 exact implProp h0 h1 hL hl hN _ ho rfl (by omega)

def okN (n : Int) : Bool := decide (0 ≤ n ∧ n ≤ 14)
def clausesV (n : Int) (l : List (List Int)) : Bool := okN n && (decide (l.length ≤ 400) && l.all (clauseV n))
theorem specClauses {N : Nat} {n : Int} {l : List (List Int)} (hl : b_IntSS l) (hN : 1048576 < N) : spec_AreValidClauses N n l = some (clausesV n l) := by
 have hll : l.length ≤ 1048576 := hl.1
 unfold spec_AreValidClauses spec_AreValidClauses_b
 rw [everyE (n := l.length) (fun j => clauseV n (l.getD j [])) (some false) (some (okN n && decide (l.length ≤ 400))) (fun k i => spec_AreValidClauses_l0 N k n l i) (fun k => by
  simp only [spec_AreValidClauses_l0, spec_AreValidClauses_l0_b, Int.lt_irrefl, decide_false, cond_false, l1In_, Option.bind_some]
  unfold okN
  cases decide (0 ≤ n ∧ n ≤ 14) with
  | false => rfl
  | true => simp only [cond_true, Bool.true_and, Option.some.injEq]; exact decide_eq_decide.2 (by omega)) (fun k j hj => ?_) (by omega)]
 ·unfold clausesV
  by_cases h : ∀ j, j < l.length → clauseV n (l.getD j []) = true
  ·rw [if_pos h, (all_iff (d := ([] : List Int)) (p := clauseV n)).1 h, Bool.and_true]
  ·rw [if_neg h]
   have : l.all (clauseV n) = false := by
    rw [Bool.eq_false_iff]
    exact fun h5 => h ((all_iff (d := ([] : List Int)) (p := clauseV n)).2 h5)
   rw [this, Bool.and_false, Bool.and_false]
 ·have h1 : (j : Int) < (l.length : Int) := by omega
  have hc : (l[j]).length ≤ 1048576 := hl.2 _ (List.getElem_mem hj)
  simp only [spec_AreValidClauses_l0, spec_AreValidClauses_l0_b, h1, decide_true, cond_true, inb_lt hj, grd_true, at_lt hj, specClause hc hN, Option.bind_some, getD_lt hj, w64_succ (show j < 4611686018427387904 by omega)]
  cases clauseV n l[j] <;> rfl
theorem implAre {N : Nat} {n : Int} {l : List (List Int)} (hi : in_IntSS l) (hl : b_IntSS l) (hN : 1048576 < N) : impl_areClauses N n l = some (okN n && l.all (clauseV n)) := by
 have hll : l.length ≤ 1048576 := hl.1
 unfold impl_areClauses
 rw [within_, Option.bind_some]
 unfold okN
 by_cases hn : 0 ≤ n ∧ n ≤ 14
 ·rw [decide_eq_true hn, cond_true, Bool.true_and]
  unfold slices_ContainsFunc_LLint_Lint_areClauses_c1 slices_IndexFunc_LLint_Lint_areClauses_c1 slices_IndexFunc_LLint_Lint_areClauses_c1_b
  rw [contains_of (d := ([] : List Int)) (xs := l) (p := fun c => !clauseV n c) (first (n := l.length) (fun j => !clauseV n (l.getD j [])) (fun k i => slices_IndexFunc_LLint_Lint_areClauses_c1_l0 N k l n (l.length : Int) i) (fun k => by simp [slices_IndexFunc_LLint_Lint_areClauses_c1_l0, slices_IndexFunc_LLint_Lint_areClauses_c1_l0_b]) (fun k j hj => ?_) (by omega))]
  ·rw [Option.bind_some, ← List.not_all_eq_any_not, Bool.not_not]
  ·have h1 : (j : Int) < (l.length : Int) := by omega
   have hc : (l[j]).length ≤ 1048576 := hl.2 _ (List.getElem_mem hj)
   simp only [slices_IndexFunc_LLint_Lint_areClauses_c1_l0, slices_IndexFunc_LLint_Lint_areClauses_c1_l0_b, h1, decide_true, cond_true, inb_lt hj, grd_true, at_lt hj, impl_areClauses_c1, implClause hn.1 hn.2 (hi.2 _ (List.getElem_mem hj)) hc hN, Option.bind_some, getD_lt hj, w64_succ (show j < 4611686018427387904 by omega)]
   cases clauseV n l[j] <;> rfl
 ·rw [decide_eq_false hn, cond_false, Bool.false_and]
theorem implClauses {N : Nat} {n : Int} {l : List (List Int)} (hi : in_IntSS l) (hl : b_IntSS l) (hN : 1048576 < N) : impl_AreValidClauses N n l = some (clausesV n l) := by
 unfold impl_AreValidClauses clausesV
 rw [implAre hi hl hN, Option.bind_some]
 by_cases h : l.length ≤ 400
 ·rw [decide_eq_true (show (l.length : Int) ≤ 400 by omega), decide_eq_true h, cond_true, Bool.true_and]
 ·rw [decide_eq_false (show ¬ (l.length : Int) ≤ 400 by omega), decide_eq_false h, cond_false, Bool.false_and, Bool.and_false]

def rup (n : Int) (L : List (List Int)) (c : List Int) : Bool := (prop n L (neg c)).2
def rups (n : Int) : List (List Int) → List (List Int) → Bool
 | _, [] => true
 | L, c :: P => rup n L c && rups n (L ++ [c]) P
def rupsV (n : Int) : List (List Int) → List (List Int) → Bool
 | _, [] => true
 | L, c :: P => clauseV n c && (rup n L c && rupsV n (L ++ [c]) P)
theorem rupsV_eq (n : Int) : ∀ (L P : List (List Int)), rupsV n L P = (P.all (clauseV n) && rups n L P)
 | L, [] => rfl
 | L, c :: P => by
  rw [rupsV, rups, List.all_cons, rupsV_eq n (L ++ [c]) P]
  cases clauseV n c <;> cases rup n L c <;> cases P.all (clauseV n) <;> rfl
def lastE (P : List (List Int)) : Bool := decide ((P.getD (P.length - 1) []).length = 0)
def proofV (n : Int) (l P : List (List Int)) : Bool := clausesV n l && (decide (0 < P.length) && (lastE P && rupsV n l P))

theorem specRups {N : Nat} {n : Int} {P : List (List Int)} (h0 : 0 ≤ n) (h1 : n ≤ 14) (hi : in_IntSS P) (hP : b_IntSS P) (hN : 8388608 < N) : ∀ {k j : Nat} {L : List (List Int)}, (∀ c ∈ L, Good n c) → L.length ≤ 400 + j → P.length - j < k → j ≤ P.length → spec_IsValidProof_l0 N k n P L (j : Int) = some (rupsV n L (P.drop j))
 | 0, j, L, _, _, hk, _ => by omega
 | k + 1, j, L, hL, hl, hk, hj => by
  have hPl : P.length ≤ 1048576 := hP.1
  by_cases h : j < P.length
  ·have e1 : (j : Int) < (P.length : Int) := by omega
   have hc : (P[j]).length ≤ 1048576 := hP.2 _ (List.getElem_mem h)
   rw [List.drop_eq_getElem_cons h]
   simp only [spec_IsValidProof_l0, spec_IsValidProof_l0_b, e1, decide_true, cond_true, inb_lt h, grd_true, at_lt h, specClause hc (show 1048576 < N by omega), Option.bind_some, rupsV, w64_succ (show j < 4611686018427387904 by omega)]
   cases hv : clauseV n P[j] with
   | false => rfl
   | true =>
    have hg := good_of h0 h1 (hi.2 _ (List.getElem_mem h)) hv
    simp only [Bool.not_true, cond_false, specNeg h0 h1 hg (show 1048576 < N by omega), specUnits h0 h1 hL (by omega) hN hg.neg, Option.bind_some, Bool.true_and]
    rw [show (prop n L (neg P[j])).2 = rup n L P[j] from rfl]
    cases hr : rup n L P[j] with
    | false => rfl
    | true =>
     rw [Bool.not_true, cond_false, appOk_of (by simp only [List.length_singleton]; omega), grd_true, Bool.true_and]
     exact specRups h0 h1 hi hP hN (fun c hc => by
      rcases List.mem_append.1 hc with hc | hc
      ·exact hL c hc
      ·obtain rfl : c = _ := by simpa using hc
       exact hg) (by rw [List.length_append, List.length_singleton]; omega) (by omega) (by omega)
  ·have : j = P.length := by omega
   subst this
   simp only [spec_IsValidProof_l0, spec_IsValidProof_l0_b, Int.lt_irrefl, decide_false, cond_false, List.drop_length, rupsV]
theorem implRups {N : Nat} {n : Int} {P : List (List Int)} (h0 : 0 ≤ n) (h1 : n ≤ 14) (hP : b_IntSS P) (hg : ∀ c ∈ P, Good n c) (hp : 0 < P.length) (hN : 8388608 < N) : ∀ {k j : Nat} {L : List (List Int)}, (∀ c ∈ L, Good n c) → L.length ≤ 400 + j → P.length - j < k → j ≤ P.length → impl_IsValidProof_l0 N k P L P (P.length : Int) (j : Int) = some (rups n L (P.drop j) && lastE P)
 | 0, j, L, _, _, hk, _ => by omega
 | k + 1, j, L, hL, hl, hk, hj => by
  have hPl : P.length ≤ 1048576 := hP.1
  by_cases h : j < P.length
  ·have e1 : (j : Int) < (P.length : Int) := by omega
   have hgj := hg _ (List.getElem_mem h)
   rw [List.drop_eq_getElem_cons h]
   simp only [impl_IsValidProof_l0, impl_IsValidProof_l0_b, e1, decide_true, cond_true, inb_lt h, grd_true, at_lt h, implNeg h0 h1 hgj (show 1048576 < N by omega), implUnits h0 h1 hL (by omega) hN hgj.neg, Option.bind_some, rups, w64_succ (show j < 4611686018427387904 by omega)]
   rw [show (prop n L (neg P[j])).2 = rup n L P[j] from rfl]
   cases hr : rup n L P[j] with
   | false => rfl
   | true =>
    rw [Bool.not_true, cond_false, appOk_of (by simp only [List.length_singleton]; omega), grd_true, Bool.true_and]
    exact implRups h0 h1 hP hg hp hN (fun c hc => by
     rcases List.mem_append.1 hc with hc | hc
     ·exact hL c hc
     ·obtain rfl : c = _ := by simpa using hc
      exact hgj) (by rw [List.length_append, List.length_singleton]; omega) (by omega) (by omega)
  ·have : j = P.length := by omega
   subst this
   have hq : P.length - 1 < P.length := by omega
   simp only [impl_IsValidProof_l0, impl_IsValidProof_l0_b, Int.lt_irrefl, decide_false, cond_false, List.drop_length, rups, Bool.true_and, w64_pred hp (by omega), inb_lt hq, grd_true, at_lt hq, beqI, Option.some.injEq]
   unfold lastE
   rw [getD_lt hq]
   exact decide_eq_decide.2 (by omega)
theorem okN_of {n : Int} (h : okN n = true) : 0 ≤ n ∧ n ≤ 14 := of_decide_eq_true h
theorem clausesV_of {n : Int} {l : List (List Int)} (hi : in_IntSS l) (h : clausesV n l = true) : 0 ≤ n ∧ n ≤ 14 ∧ l.length ≤ 400 ∧ ∀ c ∈ l, Good n c := by
 unfold clausesV at h
 simp only [Bool.and_eq_true, decide_eq_true_eq, List.all_eq_true] at h
 obtain ⟨h1, h2⟩ := okN_of h.1
 exact ⟨h1, h2, h.2.1, fun c hc => good_of h1 h2 (hi.2 c hc) (h.2.2 c hc)⟩
theorem specProof {N : Nat} {n : Int} {l P : List (List Int)} (hil : in_IntSS l) (hl : b_IntSS l) (hi : in_IntSS P) (hP : b_IntSS P) (hN : 8388608 < N) : spec_IsValidProof N n l P = some (proofV n l P) := by
 have hPl : P.length ≤ 1048576 := hP.1
 have hll : l.length ≤ 1048576 := hl.1
 unfold spec_IsValidProof spec_IsValidProof_b proofV
 rw [specClauses hl (show 1048576 < N by omega), Option.bind_some]
 cases hv : clausesV n l with
 | false => rfl
 | true =>
  obtain ⟨h0, h1, h2, h3⟩ := clausesV_of hil hv
  rw [Bool.not_true, cond_false, Bool.true_and, beqI]
  by_cases hp : 0 < P.length
  ·have hq : P.length - 1 < P.length := by omega
   rw [decide_eq_false (show ¬ (P.length : Int) = 0 by omega), cond_false, decide_eq_true hp, Bool.true_and, w64_pred hp (by omega), inb_lt hq, grd_true, at_lt hq]
   unfold lastE
   rw [getD_lt hq]
   by_cases he : (P[P.length - 1]).length = 0
   ·rw [decide_eq_false (show ¬ ((P[P.length - 1]).length : Int) > 0 by omega), cond_false, decide_eq_true he, Bool.true_and, appOk_of (by simp only [List.length_nil]; omega), grd_true]
    exact specRups h0 h1 hi hP hN h3 (by omega) (by omega) (j := 0) (by omega)
   ·rw [decide_eq_true (show ((P[P.length - 1]).length : Int) > 0 by omega), cond_true, decide_eq_false he, Bool.false_and]
  ·rw [decide_eq_true (show (P.length : Int) = 0 by omega), cond_true, decide_eq_false hp, Bool.false_and]
theorem implProof {N : Nat} {n : Int} {l P : List (List Int)} (hil : in_IntSS l) (hl : b_IntSS l) (hi : in_IntSS P) (hP : b_IntSS P) (hN : 8388608 < N) : impl_IsValidProof N n l P = some (proofV n l P) := by
 have hPl : P.length ≤ 1048576 := hP.1
 have hll : l.length ≤ 1048576 := hl.1
 unfold impl_IsValidProof impl_IsValidProof_b proofV
 rw [implClauses hil hl (show 1048576 < N by omega), Option.bind_some]
 cases hv : clausesV n l with
 | false => rfl
 | true =>
  obtain ⟨h0, h1, h2, h3⟩ := clausesV_of hil hv
  rw [Bool.not_true, cond_false, Bool.true_and, beqI]
  by_cases hp : 0 < P.length
  ·rw [decide_eq_false (show ¬ (P.length : Int) = 0 by omega), cond_false, decide_eq_true hp, Bool.true_and, implAre hi hP (show 1048576 < N by omega), Option.bind_some, show okN n = true from decide_eq_true ⟨h0, h1⟩, Bool.true_and, rupsV_eq]
   cases ha : P.all (clauseV n) with
   | false => rw [Bool.false_and, Bool.and_false]; rfl
   | true =>
    have hg : ∀ c ∈ P, Good n c := fun c hc => good_of h0 h1 (hi.2 c hc) (List.all_eq_true.1 ha c hc)
    rw [Bool.not_true, cond_false, show slices_Clone_LLint_Lint N l = some l by unfold slices_Clone_LLint_Lint; rw [decide_eq_true (by omega)]; rfl, Option.bind_some, Bool.true_and, Bool.and_comm (lastE P)]
    exact implRups h0 h1 hP hg hp hN h3 (by omega) (by omega) (j := 0) (by omega)
  ·rw [decide_eq_true (show (P.length : Int) = 0 by omega), cond_true, decide_eq_false hp, Bool.false_and]
end Go.PL
namespace Go.PL
set_option linter.unusedVariables false
/-- A loop that appends a piece for each element, and goes on. -/
theorem collectG {α β R : Type} {a : List α} (piece : α → List β) {f : Nat → List β → Int → Option R} {g : List β → Option R} (hp : ∀ x ∈ a, (piece x).length ≤ 1) (hend : ∀ k out, f (k + 1) out (a.length : Int) = g out)
  (hstep : ∀ k out j (h : j < a.length), out.length ≤ j → f (k + 1) out (j : Int) = f k (out ++ piece a[j]) ((j + 1 : Nat) : Int)) {k : Nat} (hk : a.length < k) : f k [] 0 = g (a.flatMap piece) := by
 have := loop (fun k (q : List β × Nat) => f k q.1 (q.2 : Int)) (fun q => q.2 ≤ a.length ∧ q.1.length ≤ q.2 ∧ q.1 ++ (a.drop q.2).flatMap piece = a.flatMap piece) (fun q => a.length - q.2) (fun o => o = g (a.flatMap piece)) (fun k q hs => by
  obtain ⟨out, j⟩ := q
  obtain ⟨h1, h2, h3⟩ := hs
  simp only at h1 h2 h3 ⊢
  by_cases hj : j < a.length
  ·right
   refine ⟨(out ++ piece a[j], j + 1), ⟨hj, ?_, ?_⟩, by simp only; omega, hstep k out j hj h2⟩
   ·have := hp a[j] (List.getElem_mem hj)
    simp only [List.length_append]; omega
   ·rw [← h3, List.drop_eq_getElem_cons hj, List.flatMap_cons, List.append_assoc]
  ·left
   have : j = a.length := by omega
   subst this
   rw [hend, ← h3, List.drop_length]; simp) k ([], 0) (by simpa using hk) ⟨by simp, by simp, by simp⟩
 exact this

def coreF (V : List Int → Bool) : Nat → List Int → List Int
 | 0, kept => kept
 | i + 1, kept => if V (toI (List.range i) ++ kept) then coreF V i kept else coreF V i ((i : Int) :: kept)
theorem coreF_len (V : List Int → Bool) : ∀ (m : Nat) (kept : List Int), (coreF V m kept).length ≤ m + kept.length
 | 0, kept => by simp [coreF]
 | m + 1, kept => by
  unfold coreF
  split
  ·have := coreF_len V m kept; omega
  ·have := coreF_len V m ((m : Int) :: kept)
   rw [List.length_cons] at this; omega
theorem selIn {l : List (List Int)} {x : List Int} (hl : in_IntSS l) (hx : x.length ≤ 1048576) : in_IntSS (selL l x) := by
 refine ⟨Nat.le_trans (flatMap_len (n := 1) fun x _ => selC_len l x) (by omega), fun y hy => ?_⟩
 simp only [selL, List.mem_flatMap] at hy
 obtain ⟨i, _, hy⟩ := hy
 unfold selC at hy
 split at hy
 ·rename_i h
  obtain rfl : y = _ := by simpa using hy
  rw [at_int h.1 (by omega)]
  exact hl.2 _ (List.getElem_mem _)
 ·simp at hy
theorem range_one (m : Nat) : toI (List.range (m + 1)) = toI (List.range m) ++ [(m : Int)] := by
 rw [List.range_succ, toI_append]; rfl
theorem range_len (m : Nat) : (toI (List.range m)).length = m := by rw [toI_length, List.length_range]
theorem cut_filter (m : Nat) (kept : List Int) (hk : ∀ x ∈ kept, (m : Int) < x) : (toI (List.range (m + 1)) ++ kept).flatMap (fun x => if x = (m : Int) then [] else [x]) = toI (List.range m) ++ kept := by
 have key : ∀ l : List Int, (∀ x ∈ l, x ≠ (m : Int)) → l.flatMap (fun x => if x = (m : Int) then [] else [x]) = l := by
  intro l
  induction l with
  | nil => intro _; rfl
  | cons x l ih =>
   intro h
   rw [List.flatMap_cons, ih fun y hy => h y (by simp [hy]), if_neg (h x (by simp))]; rfl
 rw [range_one, List.flatMap_append, List.flatMap_append, key _ (fun x hx => by
  unfold toI at hx
  obtain ⟨k, hk, rfl⟩ := List.mem_map.1 hx
  have := List.mem_range.1 hk
  omega), key kept (fun x hx => by have := hk x hx; omega)]
 simp
section
variable {N : Nat} {n : Int} {l P : List (List Int)}
def coreV (n : Int) (l P : List (List Int)) (x : List Int) : Bool := proofV n (selL l x) P
theorem specCore (hil : in_IntSS l) (hl : b_IntSS l) (hi : in_IntSS P) (hP : b_IntSS P) (hN : 8388608 < N) : ∀ (m : Nat) {kept : List Int} {k : Nat}, (∀ x ∈ kept, (m : Int) ≤ x) → m + kept.length ≤ 400 → m < k → spec_UnsatCore_l1 N k n l P (toI (List.range m) ++ kept) ((m : Int) - 1) = some (coreF (coreV n l P) m kept)
 | _, kept, 0, _, _, hk => by omega
 | 0, kept, k + 1, hge, hlen, hk => by
  simp only [spec_UnsatCore_l1, spec_UnsatCore_l1_b]
  rw [decide_eq_false (by omega)]; rfl
 | m + 1, kept, k + 1, hge, hlen, hk => by
  have hol : (toI (List.range (m + 1)) ++ kept).length = m + 1 + kept.length := by rw [List.length_append, range_len]
  have hxl : (toI (List.range m) ++ kept).length ≤ 1048576 := by rw [List.length_append, range_len]; omega
  simp only [spec_UnsatCore_l1, spec_UnsatCore_l1_b]
  rw [decide_eq_true (by omega), cond_true, show (((m + 1 : Nat) : Int) - 1) = (m : Int) by omega]
  rw [collectG (a := toI (List.range (m + 1)) ++ kept) (fun x => if x = (m : Int) then [] else [x]) (f := fun f x q => spec_UnsatCore_l2 (spec_UnsatCore_l1 N k) N f n l P (toI (List.range (m + 1)) ++ kept) (m : Int) x q)
   (g := fun x => (spec_SelectClauses N l x).bind fun r2 => (spec_IsValidProof N n r2 P).bind fun r3 => bif r3 then spec_UnsatCore_l1 N k n l P x (w64 ((m : Int) - 1)) else spec_UnsatCore_l1 N k n l P (toI (List.range (m + 1)) ++ kept) (w64 ((m : Int) - 1))) (fun x _ => by split <;> simp) (fun f x => by
    simp only [spec_UnsatCore_l2, spec_UnsatCore_l2_b, Int.lt_irrefl, decide_false, cond_false]) (fun f x j hj ho => ?_) (by rw [hol]; omega)]
  ·rw [cut_filter m kept (fun x hx => by have := hge x hx; omega), specSelect hl hxl (show 1048576 < N by omega), Option.bind_some, specProof (selIn hil hxl) (selB hl hxl) hi hP hN, Option.bind_some]
   unfold coreF
   rw [show proofV n (selL l (toI (List.range m) ++ kept)) P = coreV n l P (toI (List.range m) ++ kept) from rfl, w64_id (by omega) (by omega)]
   cases coreV n l P (toI (List.range m) ++ kept) with
   | true =>
    rw [cond_true, if_pos rfl]
    exact specCore hil hl hi hP hN m (fun x hx => by have := hge x hx; omega) (by omega) (by omega)
   | false =>
    rw [cond_false, if_neg (by simp), range_one, List.append_assoc]
    exact specCore hil hl hi hP hN m (kept := (m : Int) :: kept) (fun x hx => by
     rcases List.mem_cons.1 hx with rfl | hx
     ·exact Int.le_refl _
     ·have := hge x hx; omega) (by rw [List.length_cons]; omega) (by omega)
  ·generalize toI (List.range (m + 1)) ++ kept = out at *
   have h1 : (j : Int) < (out.length : Int) := by omega
   simp only [spec_UnsatCore_l2, spec_UnsatCore_l2_b, h1, decide_true, cond_true, inb_lt hj, grd_true, at_lt hj, bneI, w64_succ (show j < 4611686018427387904 by omega)]
   rw [appOk_of (by simp only [List.length_singleton]; omega), grd_true]
   by_cases he : out[j] = (m : Int)
   ·rw [decide_eq_true he, if_pos he]; simp
   ·rw [decide_eq_false he, if_neg he]; rfl
theorem implCore (hil : in_IntSS l) (hl : b_IntSS l) (hi : in_IntSS P) (hP : b_IntSS P) (hN : 8388608 < N) : ∀ (m : Nat) {kept : List Int} {k : Nat}, m + kept.length ≤ 400 → m < k → impl_UnsatCore_l1 N k n l P (toI (List.range m) ++ kept) ((m : Int) - 1) = some (coreF (coreV n l P) m kept)
 | _, kept, 0, _, hk => by omega
 | 0, kept, k + 1, hlen, hk => by
  simp only [impl_UnsatCore_l1, impl_UnsatCore_l1_b]
  rw [decide_eq_false (by omega)]; rfl
 | m + 1, kept, k + 1, hlen, hk => by
  have hol : (toI (List.range (m + 1)) ++ kept).length = m + 1 + kept.length := by rw [List.length_append, range_len]
  have hxl : (toI (List.range m) ++ kept).length ≤ 1048576 := by rw [List.length_append, range_len]; omega
  have hcl : slices_Clone_Lint_int N (toI (List.range (m + 1)) ++ kept) = some (toI (List.range (m + 1)) ++ kept) := by
   unfold slices_Clone_Lint_int; rw [decide_eq_true (by rw [hol]; omega)]; rfl
  have hde : slices_Delete_Lint_int N (toI (List.range (m + 1)) ++ kept) (m : Int) ((m + 1 : Nat) : Int) = some (toI (List.range m) ++ kept) := by
   unfold slices_Delete_Lint_int
   rw [decide_eq_true (by rw [hol]; omega), decide_eq_true (by omega), decide_eq_true (by omega), decide_eq_true (by rw [hol]; omega), Int.toNat_natCast, Int.toNat_natCast]
   simp only [Bool.and_self, grd_true, Option.some.injEq]
   congr 1
   ·rw [range_one, List.append_assoc, List.take_left' (range_len m)]
   ·rw [List.drop_left' (range_len (m + 1))]
  simp only [impl_UnsatCore_l1, impl_UnsatCore_l1_b]
  rw [decide_eq_true (by omega), cond_true, show (((m + 1 : Nat) : Int) - 1) = (m : Int) by omega, hcl, Option.bind_some, w64_succ (by omega), hde, Option.bind_some, implSelect hl hxl (show 1048576 < N by omega), Option.bind_some, implProof (selIn hil hxl) (selB hl hxl) hi hP hN, Option.bind_some]
  unfold coreF
  rw [show proofV n (selL l (toI (List.range m) ++ kept)) P = coreV n l P (toI (List.range m) ++ kept) from rfl, w64_id (by omega) (by omega)]
  cases coreV n l P (toI (List.range m) ++ kept) with
  | true =>
   rw [cond_true, if_pos rfl]
   exact implCore hil hl hi hP hN m (by omega) (by omega)
  | false =>
   rw [cond_false, if_neg (by simp), range_one, List.append_assoc]
   exact implCore hil hl hi hP hN m (kept := (m : Int) :: kept) (by rw [List.length_cons]; omega) (by omega)
def core (n : Int) (l P : List (List Int)) : List Int := if proofV n l P then coreF (coreV n l P) l.length [] else []
theorem core_len (hil : in_IntSS l) : (core n l P).length ≤ 400 := by
 unfold core
 split
 ·rename_i h
  unfold proofV at h
  simp only [Bool.and_eq_true] at h
  obtain ⟨_, _, h2, _⟩ := clausesV_of hil h.1
  have := coreF_len (coreV n l P) l.length []
  rw [List.length_nil] at this; omega
 ·simp
theorem specUnsat (hil : in_IntSS l) (hl : b_IntSS l) (hi : in_IntSS P) (hP : b_IntSS P) (hN : 8388608 < N) : spec_UnsatCore N n l P = some (core n l P) := by
 unfold spec_UnsatCore spec_UnsatCore_b core
 rw [specProof hil hl hi hP hN, Option.bind_some]
 cases hv : proofV n l P with
 | false => rfl
 | true =>
  rw [Bool.not_true, cond_false, if_pos rfl]
  have hv2 := hv
  unfold proofV at hv2
  simp only [Bool.and_eq_true] at hv2
  obtain ⟨_, _, h2, _⟩ := clausesV_of hil hv2.1
  have := loop (fun k (j : Nat) => spec_UnsatCore_l0 N k n l P (toI (List.range j))) (fun j => j ≤ l.length) (fun j => l.length - j) (fun o => o = some (coreF (coreV n l P) l.length [])) (fun k j hs => by
   by_cases hj : j < l.length
   ·right
    refine ⟨j + 1, hj, by omega, ?_⟩
    simp only [spec_UnsatCore_l0, spec_UnsatCore_l0_b, range_len]
    rw [decide_eq_true (by omega), cond_true, appOk_of (by rw [range_len, List.length_singleton]; omega), grd_true, ← range_one]
   ·left
    have : j = l.length := by omega
    subst this
    simp only [spec_UnsatCore_l0, spec_UnsatCore_l0_b, range_len, Int.lt_irrefl, decide_false, cond_false]
    rw [w64_id (by omega) (by omega)]
    have := specCore (n := n) hil hl hi hP hN l.length (kept := []) (k := N) (by simp) (by rw [List.length_nil]; omega) (by omega)
    rwa [List.append_nil] at this) N 0 (by omega) (by omega)
  exact this
theorem implUnsat (hil : in_IntSS l) (hl : b_IntSS l) (hi : in_IntSS P) (hP : b_IntSS P) (hN : 8388608 < N) : impl_UnsatCore N n l P = some (core n l P) := by
 unfold impl_UnsatCore impl_UnsatCore_b core
 rw [implProof hil hl hi hP hN, Option.bind_some]
 cases hv : proofV n l P with
 | false => rfl
 | true =>
  rw [Bool.not_true, cond_false, if_pos rfl]
  have hv2 := hv
  unfold proofV at hv2
  simp only [Bool.and_eq_true] at hv2
  obtain ⟨_, _, h2, _⟩ := clausesV_of hil hv2.1
  have := loop (fun k (j : Nat) => impl_UnsatCore_l0 N k n l P (toI (List.range j)) (l.length : Int) (j : Int)) (fun j => j ≤ l.length) (fun j => l.length - j) (fun o => o = some (coreF (coreV n l P) l.length [])) (fun k j hs => by
   by_cases hj : j < l.length
   ·right
    refine ⟨j + 1, hj, by omega, ?_⟩
    simp only [impl_UnsatCore_l0, impl_UnsatCore_l0_b]
    rw [decide_eq_true (by omega), cond_true, appOk_of (by rw [range_len, List.length_singleton]; omega), grd_true, ← range_one, w64_succ (by omega)]
   ·left
    have : j = l.length := by omega
    subst this
    simp only [impl_UnsatCore_l0, impl_UnsatCore_l0_b, range_len, Int.lt_irrefl, decide_false, cond_false]
    rw [w64_id (by omega) (by omega)]
    have := implCore (n := n) hil hl hi hP hN l.length (kept := []) (k := N) (by rw [List.length_nil]; omega) (by omega)
    rwa [List.append_nil] at this) N 0 (by omega) (by omega)
  exact this
end
theorem law_UnsatCore {N : Nat} (hN : 8388608 < N) {n : Int} {l P : List (List Int)} (hil : in_IntSS l) (hi : in_IntSS P) : laws_FnExactUnsatCore N n l P = some true := by
 have hN1 : 1048576 < N := by omega
 unfold laws_FnExactUnsatCore
 rw [fsz_IntSS hil (by omega) (by omega) hN1, Option.bind_some]
 by_cases h1 : (s_IntSS l : Int) ≤ 1048576
 case neg => rw [sub1_neg h1]; rfl
 rw [sub1_pos h1, not_neg (by omega), cond_false, fsz_IntSS hi (by omega) (by omega) hN1, Option.bind_some]
 by_cases h2 : (s_IntSS P : Int) ≤ 1048576 - (s_IntSS l : Int)
 case neg => rw [sub1_neg h2]; rfl
 rw [sub1_pos h2, not_neg (by omega), cond_false]
 have hl : b_IntSS l := b_of_IntSS (by omega)
 have hP : b_IntSS P := b_of_IntSS (by omega)
 have hrl := core_len (n := n) (P := P) hil
 have hr : b_IntS (core n l P) := Nat.le_trans hrl (by omega)
 have hcl := c_IntSS_le hl
 have hcP := c_IntSS_le hP
 have hcr := c_IntS_eq (core n l P)
 simp only [fto_IntSS hl hN1, fto_IntSS hP hN1, Option.bind_some, specUnsat hil hl hi hP hN, implUnsat hil hl hi hP hN, feq_IntSS hl hN1, feq_IntSS hP hN1, feq_IntS hr hN1, decide_true, Bool.not_true, cond_false]
 rw [fmk_IntSS hl (by omega) (by omega) hN1, Option.bind_some]
 simp only
 rw [fmk_IntSS hP (by omega) (by omega) hN1, Option.bind_some]
 simp only
 rw [not_neg (by omega), cond_false, fmk_IntS hr (by omega) (by omega) hN1, Option.bind_some]
 simp only [fhd_IntS hr (show (0 : Int) ≤ 1 by omega) (by omega) hN1, Option.bind_some]
 rw [not_neg (by omega)]
 simp
end Go.PL
