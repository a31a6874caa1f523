/- The functions read plainly, and the plain law of them. Conditions: those that stand in each theorem. -/
import GoSem.Core.View
import GoSem.Op.String

/- Words of the plain reading. Conditions: none (definitions alone). -/
namespace Go.PL

def w64 (x : Int) : Int := IntKind.i64.wrap x
def w (k : IntKind) (x : Int) : Int := k.wrap x
def grd {α : Type} (c : Bool) (x : Option α) : Option α := bif c then x else none
def grz {α : Type} (b : Int) (x : Option α) : Option α := bif decide (b = 0) then none else x
def letv {α β : Type} (v : α) (k : α → β) : β := k v
def at_ {α : Type} (d : α) (xs : List α) (i : Int) : α := xs.getD i.toNat d
def inb {α : Type} (i : Int) (xs : List α) : Bool := decide (0 ≤ i) && decide (i < (xs.length : Int))
/-- A row that grew is stored where it stood. -/
def growOk {α : Type} (i' i : Int) (xs : List α) : Bool := decide (i' = i) && (decide (0 ≤ i') && decide (i' < (xs.length : Int)))
def appOk {α : Type} (s x : List α) (b : Nat) : Bool := decide ((s.length + x.length) * b ≤ 140737488355328)
def makeOk (n : Int) (b : Nat) : Bool := decide (n = n) && (decide (0 ≤ n) && decide (n * b ≤ 140737488355328))
def byteAt (s : ByteArray) (n : Int) : Option UInt8 := if 0 ≤ n then s[n.toNat]? else none
def catOk (a b : ByteArray) : Bool := decide (a.size + b.size ≤ 140737488355328)
def seq (a b : ByteArray) : Bool := a.toList == b.toList
def slt (a b : ByteArray) : Bool := Op.bytesLess a.toList b.toList
def subOk (lo hi : Int) (n : Nat) : Bool := decide (0 ≤ lo) && (decide (lo ≤ hi) && decide (hi ≤ (n : Int)))
def sub (s : ByteArray) (lo hi : Int) : ByteArray := s.extract lo.toNat hi.toNat
def imax (a b : Int) : Int := if b > a then b else a
def imin (a b : Int) : Int := if b < a then b else a
end Go.PL

/- The functions, read plainly. Conditions: none (definitions alone). -/
namespace Go.PL
set_option linter.unusedVariables false

def laws_szIntS (N : Nat) (a : List Int) (left_ : Int) : Option (Int) :=
  bif decide ((w64 (left_ - (a.length : Int))) < 0) then some (-1)
  else
  some (w64 (left_ - (a.length : Int)))
def laws_szIntSS_l0_b (N : Nat) (rec_ : (List (List Int)) → Int → Int → Option (Int)) (a2 : List (List Int)) (left_2 : Int) (i : Int) : Option (Int) :=
  bif decide (i < (a2.length : Int)) then
    grd (inb i a2) <|
    (laws_szIntS N (at_ [] a2 i) left_2).bind fun r =>
    bif decide (r < 0) then some (-1)
    else
    rec_ a2 r (w64 (i + 1))
  else
  some left_2
def laws_szIntSS_l0 (N : Nat) : Nat → (List (List Int)) → Int → Int → Option (Int)
  | 0, _, _, _ => none
  | k_ + 1, a2, left_2, i => laws_szIntSS_l0_b N (laws_szIntSS_l0 N k_) a2 left_2 i
def laws_szIntSS_b (N : Nat) (laws_szIntSS_l0S : (List (List Int)) → Int → Int → Option (Int)) (a : List (List Int)) (left_ : Int) : Option (Int) :=
  bif decide ((w64 (left_ - (a.length : Int))) < 0) then some (-1)
  else
  laws_szIntSS_l0S a (w64 (left_ - (a.length : Int))) 0
def laws_szIntSS (N : Nat) (a : List (List Int)) (left_ : Int) : Option (Int) := laws_szIntSS_b N (laws_szIntSS_l0 N N) a left_
def laws_toIntS_l0_b (N : Nat) (rec_ : (List Int) → (List Int) → Int → Option (List Int)) (a2 : List Int) (out : List Int) (i : Int) : Option (List Int) :=
  bif decide (i < (a2.length : Int)) then
    grd (inb i a2) <|
    grd (inb i out) <|
    grd (inb i out) <|
    letv (out.set i.toNat (at_ 0 a2 i)) fun u =>
    rec_ a2 u (w64 (i + 1))
  else
  some out
def laws_toIntS_l0 (N : Nat) : Nat → (List Int) → (List Int) → Int → Option (List Int)
  | 0, _, _, _ => none
  | k_ + 1, a2, out, i => laws_toIntS_l0_b N (laws_toIntS_l0 N k_) a2 out i
def laws_toIntS_b (N : Nat) (laws_toIntS_l0S : (List Int) → (List Int) → Int → Option (List Int)) (a : List Int) : Option (List Int) :=
  grd (makeOk (a.length : Int) 8) <|
  laws_toIntS_l0S a (List.replicate (a.length : Int).toNat 0) 0
def laws_toIntS (N : Nat) (a : List Int) : Option (List Int) := laws_toIntS_b N (laws_toIntS_l0 N N) a
def laws_toIntSS_l0_b (N : Nat) (rec_ : (List (List Int)) → (List (List Int)) → Int → Option (List (List Int))) (a2 : List (List Int)) (out : List (List Int)) (i : Int) : Option (List (List Int)) :=
  bif decide (i < (a2.length : Int)) then
    grd (inb i a2) <|
    (laws_toIntS N (at_ [] a2 i)).bind fun r =>
    grd (inb i out) <|
    grd (inb i out) <|
    letv (out.set i.toNat r) fun u =>
    rec_ a2 u (w64 (i + 1))
  else
  some out
def laws_toIntSS_l0 (N : Nat) : Nat → (List (List Int)) → (List (List Int)) → Int → Option (List (List Int))
  | 0, _, _, _ => none
  | k_ + 1, a2, out, i => laws_toIntSS_l0_b N (laws_toIntSS_l0 N k_) a2 out i
def laws_toIntSS_b (N : Nat) (laws_toIntSS_l0S : (List (List Int)) → (List (List Int)) → Int → Option (List (List Int))) (a : List (List Int)) : Option (List (List Int)) :=
  grd (makeOk (a.length : Int) 24) <|
  laws_toIntSS_l0S a (List.replicate (a.length : Int).toNat []) 0
def laws_toIntSS (N : Nat) (a : List (List Int)) : Option (List (List Int)) := laws_toIntSS_b N (laws_toIntSS_l0 N N) a
def spec_l1In (N : Nat) (x : Int) (low : Int) (high : Int) : Option (Bool) :=
  bif decide (x ≥ low) then some (decide (x ≤ high))
  else
  some false
def spec_SelectClauses_l0_b (N : Nat) (rec_ : (List (List Int)) → (List Int) → (List (List Int)) → Int → Option (List (List Int))) (l2 : List (List Int)) (at_2 : List Int) (out : List (List Int)) (i : Int) : Option (List (List Int)) :=
  bif decide (i < (at_2.length : Int)) then
    grd (inb i at_2) <|
    (spec_l1In N (at_ 0 at_2 i) 0 (w64 ((l2.length : Int) - 1))).bind fun r =>
    bif r then
      grd (inb i at_2) <|
      grd (inb (at_ 0 at_2 i) l2) <|
      grd (appOk [] (at_ [] l2 (at_ 0 at_2 i)) 8) <|
      grd (appOk out [(at_ [] l2 (at_ 0 at_2 i))] 24) <|
      rec_ l2 at_2 (out ++ [(at_ [] l2 (at_ 0 at_2 i))]) (w64 (i + 1))
    else
    rec_ l2 at_2 out (w64 (i + 1))
  else
  some out
def spec_SelectClauses_l0 (N : Nat) : Nat → (List (List Int)) → (List Int) → (List (List Int)) → Int → Option (List (List Int))
  | 0, _, _, _, _ => none
  | k_ + 1, l2, at_2, out, i => spec_SelectClauses_l0_b N (spec_SelectClauses_l0 N k_) l2 at_2 out i
def spec_SelectClauses_b (N : Nat) (spec_SelectClauses_l0S : (List (List Int)) → (List Int) → (List (List Int)) → Int → Option (List (List Int))) (l : List (List Int)) (at_ : List Int) : Option (List (List Int)) :=
  spec_SelectClauses_l0S l at_ [] 0
def spec_SelectClauses (N : Nat) (l : List (List Int)) (at_ : List Int) : Option (List (List Int)) := spec_SelectClauses_b N (spec_SelectClauses_l0 N N) l at_
def impl_within (N : Nat) (n : Int) (low : Int) (high : Int) : Option (Bool) :=
  bif decide (low ≤ n) then some (decide (n ≤ high))
  else
  some false
def impl_SelectClauses_l0_b (N : Nat) (rec_ : (List (List Int)) → (List (List Int)) → (List Int) → Int → Int → Option (List (List Int))) (clauses2 : List (List Int)) (out : List (List Int)) (t9 : List Int) (t10 : Int) (t11 : Int) : Option (List (List Int)) :=
  bif decide (t11 < t10) then
    grd (inb t11 t9) <|
    (impl_within N (at_ 0 t9 t11) 0 (w64 ((clauses2.length : Int) - 1))).bind fun r =>
    bif r then
      grd (inb (at_ 0 t9 t11) clauses2) <|
      grd (appOk [] (at_ [] clauses2 (at_ 0 t9 t11)) 8) <|
      grd (appOk out [(at_ [] clauses2 (at_ 0 t9 t11))] 24) <|
      rec_ clauses2 (out ++ [(at_ [] clauses2 (at_ 0 t9 t11))]) t9 t10 (w64 (t11 + 1))
    else
    rec_ clauses2 out t9 t10 (w64 (t11 + 1))
  else
  some out
def impl_SelectClauses_l0 (N : Nat) : Nat → (List (List Int)) → (List (List Int)) → (List Int) → Int → Int → Option (List (List Int))
  | 0, _, _, _, _, _ => none
  | k_ + 1, clauses2, out, t9, t10, t11 => impl_SelectClauses_l0_b N (impl_SelectClauses_l0 N k_) clauses2 out t9 t10 t11
def impl_SelectClauses_b (N : Nat) (impl_SelectClauses_l0S : (List (List Int)) → (List (List Int)) → (List Int) → Int → Int → Option (List (List Int))) (clauses : List (List Int)) (indices : List Int) : Option (List (List Int)) :=
  impl_SelectClauses_l0S clauses [] indices (indices.length : Int) 0
def impl_SelectClauses (N : Nat) (clauses : List (List Int)) (indices : List Int) : Option (List (List Int)) := impl_SelectClauses_b N (impl_SelectClauses_l0 N N) clauses indices
def laws_eqIntS_l0_b (N : Nat) (rec_ : (List Int) → (List Int) → Int → Option (Bool)) (a2 : List Int) (b2 : List Int) (i : Int) : Option (Bool) :=
  bif decide (i < (a2.length : Int)) then
    grd (inb i a2) <|
    grd (inb i b2) <|
    bif ((at_ 0 a2 i) != (at_ 0 b2 i)) then some false
    else
    rec_ a2 b2 (w64 (i + 1))
  else
  some true
def laws_eqIntS_l0 (N : Nat) : Nat → (List Int) → (List Int) → Int → Option (Bool)
  | 0, _, _, _ => none
  | k_ + 1, a2, b2, i => laws_eqIntS_l0_b N (laws_eqIntS_l0 N k_) a2 b2 i
def laws_eqIntS_b (N : Nat) (laws_eqIntS_l0S : (List Int) → (List Int) → Int → Option (Bool)) (a : List Int) (b : List Int) : Option (Bool) :=
  bif ((a.length : Int) != (b.length : Int)) then some false
  else
  laws_eqIntS_l0S a b 0
def laws_eqIntS (N : Nat) (a : List Int) (b : List Int) : Option (Bool) := laws_eqIntS_b N (laws_eqIntS_l0 N N) a b
def laws_eqIntSS_l0_b (N : Nat) (rec_ : (List (List Int)) → (List (List Int)) → Int → Option (Bool)) (a2 : List (List Int)) (b2 : List (List Int)) (i : Int) : Option (Bool) :=
  bif decide (i < (a2.length : Int)) then
    grd (inb i a2) <|
    grd (inb i b2) <|
    (laws_eqIntS N (at_ [] a2 i) (at_ [] b2 i)).bind fun r =>
    bif (!r) then some false
    else
    rec_ a2 b2 (w64 (i + 1))
  else
  some true
def laws_eqIntSS_l0 (N : Nat) : Nat → (List (List Int)) → (List (List Int)) → Int → Option (Bool)
  | 0, _, _, _ => none
  | k_ + 1, a2, b2, i => laws_eqIntSS_l0_b N (laws_eqIntSS_l0 N k_) a2 b2 i
def laws_eqIntSS_b (N : Nat) (laws_eqIntSS_l0S : (List (List Int)) → (List (List Int)) → Int → Option (Bool)) (a : List (List Int)) (b : List (List Int)) : Option (Bool) :=
  bif ((a.length : Int) != (b.length : Int)) then some false
  else
  laws_eqIntSS_l0S a b 0
def laws_eqIntSS (N : Nat) (a : List (List Int)) (b : List (List Int)) : Option (Bool) := laws_eqIntSS_b N (laws_eqIntSS_l0 N N) a b
def laws_markIntS_l0_b (N : Nat) (rec_ : (List Int) → Int → Int → Option (List Int × Int)) (a2 : List Int) (k2 : Int) (i : Int) : Option (List Int × Int) :=
  bif decide (i < (a2.length : Int)) then
    grd (inb i a2) <|
    grd (inb i a2) <|
    letv (a2.set i.toNat k2) fun u =>
    rec_ u (w64 (k2 + 1)) (w64 (i + 1))
  else
  some (a2, k2)
def laws_markIntS_l0 (N : Nat) : Nat → (List Int) → Int → Int → Option (List Int × Int)
  | 0, _, _, _ => none
  | k_ + 1, a2, k2, i => laws_markIntS_l0_b N (laws_markIntS_l0 N k_) a2 k2 i
def laws_markIntS_b (N : Nat) (laws_markIntS_l0S : (List Int) → Int → Int → Option (List Int × Int)) (a : List Int) (k : Int) : Option (List Int × Int) :=
  laws_markIntS_l0S a k 0
def laws_markIntS (N : Nat) (a : List Int) (k : Int) : Option (List Int × Int) := laws_markIntS_b N (laws_markIntS_l0 N N) a k
def laws_markIntSS_l0_b (N : Nat) (rec_ : (List (List Int)) → Int → Int → Option (List (List Int) × Int)) (a2 : List (List Int)) (k2 : Int) (i : Int) : Option (List (List Int) × Int) :=
  bif decide (i < (a2.length : Int)) then
    grd (inb i a2) <|
    (laws_markIntS N (at_ [] a2 i) k2).bind fun p_m =>
    letv (a2.set i.toNat p_m.1) fun u =>
    rec_ u p_m.2 (w64 (i + 1))
  else
  some (a2, k2)
def laws_markIntSS_l0 (N : Nat) : Nat → (List (List Int)) → Int → Int → Option (List (List Int) × Int)
  | 0, _, _, _ => none
  | k_ + 1, a2, k2, i => laws_markIntSS_l0_b N (laws_markIntSS_l0 N k_) a2 k2 i
def laws_markIntSS_b (N : Nat) (laws_markIntSS_l0S : (List (List Int)) → Int → Int → Option (List (List Int) × Int)) (a : List (List Int)) (k : Int) : Option (List (List Int) × Int) :=
  laws_markIntSS_l0S a k 0
def laws_markIntSS (N : Nat) (a : List (List Int)) (k : Int) : Option (List (List Int) × Int) := laws_markIntSS_b N (laws_markIntSS_l0 N N) a k
def laws_heldIntS_l0_b (N : Nat) (rec_ : (List Int) → Int → Int → Option (Int)) (a2 : List Int) (k2 : Int) (i : Int) : Option (Int) :=
  bif decide (i < (a2.length : Int)) then
    grd (inb i a2) <|
    bif ((at_ 0 a2 i) != k2) then some (-1)
    else
    rec_ a2 (w64 (k2 + 1)) (w64 (i + 1))
  else
  some k2
def laws_heldIntS_l0 (N : Nat) : Nat → (List Int) → Int → Int → Option (Int)
  | 0, _, _, _ => none
  | k_ + 1, a2, k2, i => laws_heldIntS_l0_b N (laws_heldIntS_l0 N k_) a2 k2 i
def laws_heldIntS_b (N : Nat) (laws_heldIntS_l0S : (List Int) → Int → Int → Option (Int)) (a : List Int) (k : Int) : Option (Int) :=
  laws_heldIntS_l0S a k 0
def laws_heldIntS (N : Nat) (a : List Int) (k : Int) : Option (Int) := laws_heldIntS_b N (laws_heldIntS_l0 N N) a k
def laws_heldIntSS_l0_b (N : Nat) (rec_ : (List (List Int)) → Int → Int → Option (Int)) (a2 : List (List Int)) (k2 : Int) (i : Int) : Option (Int) :=
  bif decide (i < (a2.length : Int)) then
    grd (inb i a2) <|
    (laws_heldIntS N (at_ [] a2 i) k2).bind fun r =>
    bif decide (r < 0) then some (-1)
    else
    rec_ a2 r (w64 (i + 1))
  else
  some k2
def laws_heldIntSS_l0 (N : Nat) : Nat → (List (List Int)) → Int → Int → Option (Int)
  | 0, _, _, _ => none
  | k_ + 1, a2, k2, i => laws_heldIntSS_l0_b N (laws_heldIntSS_l0 N k_) a2 k2 i
def laws_heldIntSS_b (N : Nat) (laws_heldIntSS_l0S : (List (List Int)) → Int → Int → Option (Int)) (a : List (List Int)) (k : Int) : Option (Int) :=
  laws_heldIntSS_l0S a k 0
def laws_heldIntSS (N : Nat) (a : List (List Int)) (k : Int) : Option (Int) := laws_heldIntSS_b N (laws_heldIntSS_l0 N N) a k
def laws_FnExactSelectClauses (N : Nat) (aClauses : List (List Int)) (aIndices : List Int) : Option (Bool) :=
  bif decide ((aIndices.length : Int) > 1048576) then some true
  else
  (laws_szIntSS N aClauses 1048576).bind fun r =>
  bif decide (r < 0) then some true
  else
  (laws_toIntSS N aClauses).bind fun r2 =>
  (laws_toIntS N aIndices).bind fun r3 =>
  (spec_SelectClauses N r2 r3).bind fun r4 =>
  (laws_toIntSS N aClauses).bind fun r5 =>
  (laws_toIntS N aIndices).bind fun r6 =>
  (impl_SelectClauses N r5 r6).bind fun r7 =>
  (laws_eqIntSS N r7 r4).bind fun r8 =>
  bif (!r8) then some false
  else
  (laws_toIntSS N aClauses).bind fun r9 =>
  (laws_eqIntSS N r5 r9).bind fun r10 =>
  bif (!r10) then some false
  else
  (laws_toIntS N aIndices).bind fun r11 =>
  (laws_eqIntS N r6 r11).bind fun r12 =>
  bif (!r12) then some false
  else
  (laws_markIntSS N r5 1).bind fun p_m =>
  (laws_markIntS N r6 p_m.2).bind fun p_m2 =>
  bif decide (p_m2.2 < 0) then some false
  else
  (laws_eqIntSS N r7 r4).bind fun r15 =>
  bif (!r15) then some false
  else
  (laws_markIntSS N r7 1).bind fun p_m3 =>
  (laws_heldIntSS N p_m3.1 1).bind fun r17 =>
  bif decide (r17 < 0) then some false
  else
  bif (r17 != p_m3.2) then some false
  else
  (laws_toIntSS N aClauses).bind fun r18 =>
  (laws_toIntS N aIndices).bind fun r19 =>
  (impl_SelectClauses N r18 r19).bind fun r20 =>
  (laws_eqIntSS N r20 r4).bind fun r21 =>
  bif (!r21) then some false
  else
  (laws_heldIntSS N p_m3.1 1).bind fun r22 =>
  bif decide (r22 < 0) then some false
  else
  bif (r22 != p_m3.2) then some false
  else
  some true
end Go.PL

/- The plain law, with all that it needs. Conditions: those that stand in each theorem. -/
namespace Go.PL
set_option linter.unusedVariables false
theorem w64_id {x : Int} (h1 : -9223372036854775808 ≤ x) (h2 : x ≤ 9223372036854775807) : w64 x = x := by
  unfold w64 IntKind.wrap
  simp [IntKind.bits, IntKind.signed]
  omega
theorem w64_succ {j : Nat} (h : j < 4611686018427387904) : w64 ((j : Int) + 1) = ((j + 1 : Nat) : Int) := by
  rw [w64_id (by omega) (by omega)]; omega
@[simp] theorem grd_true {α : Type} (x : Option α) : grd true x = x := rfl
@[simp] theorem grd_false {α : Type} (x : Option α) : grd false x = none := rfl
theorem grz_ne {α : Type} {b : Int} (h : b ≠ 0) (x : Option α) : grz b x = x := by simp [grz, h]
@[simp] theorem letv_eq {α β : Type} (v : α) (k : α → β) : letv v k = k v := rfl
theorem inb_nat {α : Type} (j : Nat) (xs : List α) : inb (j : Int) xs = decide (j < xs.length) := by
  simp [inb]
theorem inb_lt {α : Type} {j : Nat} {xs : List α} (h : j < xs.length) : inb (j : Int) xs = true := by simp [inb_nat, h]
theorem at_lt {α : Type} {d : α} {j : Nat} {xs : List α} (h : j < xs.length) : at_ d xs (j : Int) = xs[j] := by simp [at_, h]
theorem makeOk_lt {n : Nat} {b : Nat} (h : n * b ≤ 140737488355328) : makeOk (n : Int) b = true := by
  have h1 : (n : Int) * (b : Int) ≤ 140737488355328 := by rw [← Int.natCast_mul]; omega
  have h2 : (0 : Int) ≤ n := by omega
  simp only [makeOk, h1, h2, decide_true, Bool.and_self]

theorem bneI (a b : Int) : (a != b) = !decide (a = b) := by by_cases h : a = b <;> simp [h]
theorem ite_dec {p : Prop} [Decidable p] {α : Type} (x y : Option α) : (bif !decide p then x else y) = if decide p then y else x := by by_cases h : p <;> simp [h]

/-- A loop: what holds at each round's start, and what goes down; what comes out. -/
theorem loop {σ R : Type} (f : Nat → σ → Option R) (I : σ → Prop) (μ : σ → Nat) (Q : Option R → Prop) (hstep : ∀ k s, I s → Q (f (k + 1) s) ∨ ∃ s', I s' ∧ μ s' < μ s ∧ f (k + 1) s = f k s') : ∀ (k : Nat) (s : σ), μ s < k → I s → Q (f k s)
  | 0, s, hk, hs => by omega
  | k + 1, s, hk, hs => by
    rcases hstep k s hs with h | ⟨s', h1, h2, h3⟩
    · exact h
    · rw [h3]
      exact loop f I μ Q hstep k s' (by omega) h1

theorem take_succ_set {α : Type} {out a : List α} {j : Nat} {y : α} (h1 : j < a.length) (h2 : j < out.length) (ht : out.take j = a.take j) (hy : y = a[j]) : (out.set j y).take (j + 1) = a.take (j + 1) := by
  subst hy
  rw [List.take_set, List.take_succ_eq_append_getElem h2, List.take_succ_eq_append_getElem h1, ht]
  simp [List.set_append_right, List.length_take, Nat.min_eq_left (Nat.le_of_lt h1)]

/-- A loop that fills a row. -/
theorem fill {β : Type} {b : List β} (f : Nat → List β → Int → Option (List β)) (hend : ∀ k out, f (k + 1) out (b.length : Int) = some out)
    (hstep : ∀ k out j (h : j < b.length), out.length = b.length → f (k + 1) out (j : Int) = f k (out.set j b[j]) ((j + 1 : Nat) : Int)) {k : Nat} (hk : b.length < k) {out : List β} (ho : out.length = b.length) : f k out 0 = some b := by
  have := loop (fun k (s : List β × Nat) => f k s.1 (s.2 : Int)) (fun s => s.1.length = b.length ∧ s.2 ≤ b.length ∧ s.1.take s.2 = b.take s.2) (fun s => b.length - s.2) (fun o => o = some b) (fun k s hs => by
    obtain ⟨out, j⟩ := s
    obtain ⟨h1, h2, h3⟩ := hs
    simp only at h1 h2 h3 ⊢
    by_cases hj : j < b.length
    · right
      exact ⟨(out.set j b[j], j + 1), ⟨by simp [h1], hj, take_succ_set hj (by omega) h3 rfl⟩, by simp only; omega, hstep k out j hj h1⟩
    · left
      have : j = b.length := by omega
      subst this
      rw [hend, ← List.take_of_length_le (Nat.le_of_eq h1), h3, List.take_length]) k (out, 0) (by simpa using hk) ⟨ho, by simp, by simp⟩
  exact this
/-- A loop that asks something of each index. -/
theorem every {n : Nat} (p : Nat → Bool) (f : Nat → Int → Option Bool) (hend : ∀ k, f (k + 1) (n : Int) = some true) (hstep : ∀ k j, j < n → f (k + 1) (j : Int) = if p j then f k ((j + 1 : Nat) : Int) else some false) {k : Nat} (hk : n < k) : f k 0 = some (decide (∀ j, j < n → p j = true)) := by
  have := loop (fun k (j : Nat) => f k (j : Int)) (fun j => j ≤ n ∧ ∀ i, i < j → p i = true) (fun j => n - j) (fun o => o = some (decide (∀ j, j < n → p j = true))) (fun k j hs => by
    obtain ⟨h1, h2⟩ := hs
    by_cases hj : j < n
    · rw [hstep k j hj]
      cases hp : p j with
      | true =>
        right
        exact ⟨j + 1, ⟨hj, fun i hi => by rcases Nat.lt_or_eq_of_le (Nat.le_of_lt_succ hi) with h | h; exact h2 i h; rw [h]; exact hp⟩, by omega, by simp⟩
      | false =>
        left
        have : ¬ ∀ j, j < n → p j = true := fun h => by have := h j hj; rw [hp] at this; simp at this
        simp [this]
    · left
      have : j = n := by omega
      subst this
      rw [hend]
      simp only [Option.some.injEq]
      symm
      simpa using h2) k 0 (by simpa using hk) ⟨by omega, by omega⟩
  exact this
/-- A loop that looks for the first index of which something holds. -/
theorem first {n : Nat} (p : Nat → Bool) (f : Nat → Int → Option Int) (hend : ∀ k, f (k + 1) (n : Int) = some (-1)) (hstep : ∀ k j, j < n → f (k + 1) (j : Int) = if p j then some (j : Int) else f k ((j + 1 : Nat) : Int)) {k : Nat} (hk : n < k) :
    (∃ j, j < n ∧ p j = true ∧ (∀ i, i < j → p i = false) ∧ f k 0 = some (j : Int)) ∨ ((∀ i, i < n → p i = false) ∧ f k 0 = some (-1)) := by
  have := loop (fun k (j : Nat) => f k (j : Int)) (fun j => j ≤ n ∧ ∀ i, i < j → p i = false) (fun j => n - j) (fun o => (∃ j, j < n ∧ p j = true ∧ (∀ i, i < j → p i = false) ∧ o = some (j : Int)) ∨ ((∀ i, i < n → p i = false) ∧ o = some (-1))) (fun k j hs => by
    obtain ⟨h1, h2⟩ := hs
    by_cases hj : j < n
    · rw [hstep k j hj]
      cases hp : p j with
      | true => left; left; exact ⟨j, hj, hp, h2, rfl⟩
      | false =>
        right
        exact ⟨j + 1, ⟨hj, fun i hi => by rcases Nat.lt_or_eq_of_le (Nat.le_of_lt_succ hi) with h | h; exact h2 i h; rw [h]; exact hp⟩, by omega, by simp⟩
    · left; right
      have : j = n := by omega
      subst this
      exact ⟨h2, hend k⟩) k 0 (by simpa using hk) ⟨by omega, by omega⟩
  exact this
theorem inb_int {α : Type} {i : Int} {xs : List α} (h0 : 0 ≤ i) (h : i < xs.length) : inb i xs = true := by simp [inb, h0, h]
theorem at_int {α : Type} {d : α} {i : Int} {xs : List α} (h0 : 0 ≤ i) (h : i < xs.length) : at_ d xs i = xs[i.toNat]'(by omega) := by
  unfold at_
  rw [List.getD_eq_getElem?_getD, List.getElem?_eq_getElem (by omega)]
  rfl
end Go.PL
namespace Go.PL
set_option linter.unusedVariables false
set_option linter.unusedSimpArgs false
def in_int (x : Int) : Prop := IntKind.min .i64 ≤ x ∧ x ≤ IntKind.max .i64
theorem bneB (a b : Bool) : (a != b) = !decide (a = b) := by cases a <;> cases b <;> rfl
theorem beqB (a b : Bool) : (a == b) = decide (a = b) := by cases a <;> cases b <;> rfl
theorem list_eq_iff' {α : Type} [DecidableEq α] {a b : List α} (h : a.length = b.length) : (a = b) ↔ ∀ j, j < a.length → (decide (a[j]? = b[j]?)) = true := by
  constructor
  · rintro rfl j _; simp
  · intro h2
    apply List.ext_getElem?
    intro j
    by_cases hj : j < a.length
    · simpa using h2 j hj
    · rw [List.getElem?_eq_none (by omega), List.getElem?_eq_none (by omega)]
/-- How much of what is left is taken. -/
def sub1 (l : Int) (s : Nat) : Int := if (s : Int) ≤ l then l - s else -1
theorem sub1_pos {l : Int} {s : Nat} (h : (s : Int) ≤ l) : sub1 l s = l - s := if_pos h
theorem sub1_neg {l : Int} {s : Nat} (h : ¬ (s : Int) ≤ l) : sub1 l s = -1 := if_neg h
def sumL {α : Type} (s : α → Nat) (a : List α) : Nat := a.length + (a.map s).sum
theorem sumL_len {α : Type} {s : α → Nat} {a : List α} {m : Nat} (h : sumL s a ≤ m) : a.length ≤ m := Nat.le_trans (Nat.le_add_right _ _) h
theorem sum_mem {α : Type} {s : α → Nat} : ∀ {a : List α} {y : α}, y ∈ a → s y ≤ (a.map s).sum
  | [], y, h => by simp at h
  | x :: a, y, h => by
    rcases List.mem_cons.1 h with rfl | h
    · simp
    · have := sum_mem (s := s) h
      simp only [List.map_cons, List.sum_cons]; omega
theorem sumL_mem {α : Type} {s : α → Nat} {a : List α} {y : α} (h : y ∈ a) : s y ≤ sumL s a := Nat.le_trans (sum_mem h) (Nat.le_add_left _ _)
/-- A loop that takes from what is left. -/
theorem szL {α : Type} {a : List α} {s : α → Nat} {g : α → Int → Option Int} {f : Nat → Int → Int → Option Int} (hg : ∀ x ∈ a, ∀ l : Int, 0 ≤ l → l ≤ 1048576 → g x l = some (sub1 l (s x)))
    (hend : ∀ k l, f (k + 1) l (a.length : Int) = some l) (hstep : ∀ k l j (h : j < a.length), f (k + 1) l (j : Int) = (g a[j] l).bind fun r => bif decide (r < 0) then some (-1) else f k r ((j + 1 : Nat) : Int))
    {k : Nat} (hk : a.length < k) {l : Int} (h0 : 0 ≤ l) (h1 : l ≤ 1048576) : f k l 0 = some (sub1 l ((a.map s).sum)) := by
  have := loop (fun k (q : Int × Nat) => f k q.1 (q.2 : Int)) (fun q => 0 ≤ q.1 ∧ q.1 ≤ 1048576 ∧ q.2 ≤ a.length ∧ sub1 q.1 (((a.drop q.2).map s).sum) = sub1 l ((a.map s).sum)) (fun q => a.length - q.2) (fun o => o = some (sub1 l ((a.map s).sum))) (fun k q hs => by
    obtain ⟨v, j⟩ := q
    obtain ⟨g0, g1, g2, g3⟩ := hs
    simp only at g0 g1 g2 g3 ⊢
    by_cases hj : j < a.length
    · rw [hstep k v j hj, hg a[j] (List.getElem_mem hj) v g0 g1, Option.bind_some]
      rw [List.drop_eq_getElem_cons hj, List.map_cons, List.sum_cons] at g3
      by_cases hc : (s a[j] : Int) ≤ v
      · right
        refine ⟨(v - s a[j], j + 1), ⟨by simp only; omega, by simp only; omega, hj, ?_⟩, by simp only; omega, ?_⟩
        · rw [← g3]; simp only [sub1]; split <;> split <;> omega
        · rw [sub1_pos hc, decide_eq_false (by omega), cond_false]
      · left
        rw [sub1_neg hc, decide_eq_true (by omega), cond_true]
        rw [← g3, sub1_neg (by omega)]
    · left
      have : j = a.length := by omega
      subst this
      rw [hend]
      rw [List.drop_length] at g3
      rw [← g3]; simp [sub1, g0]) k (l, 0) (by simpa using hk) ⟨h0, h1, by simp, by simp⟩
  exact this
def mkL {α : Type} (c : α → Nat) (mv : α → Int → α) : List α → Int → List α
  | [], _ => []
  | x :: r, k => mv x k :: mkL c mv r (k + (c x : Int))
def costL {α : Type} (c : α → Nat) (a : List α) : Nat := (a.map c).sum
theorem mkL_length {α : Type} (c : α → Nat) (mv : α → Int → α) : ∀ (a : List α) (k : Int), (mkL c mv a k).length = a.length
  | [], k => rfl
  | x :: a, k => by simp [mkL, mkL_length c mv a]
theorem inb_set {α : Type} {xs : List α} {j : Nat} {v : α} {i : Int} : inb i (xs.set j v) = inb i xs := by simp [inb]
theorem at_set {α : Type} {d : α} {xs : List α} {j : Nat} {v : α} (h : j < xs.length) : at_ d (xs.set j v) (j : Int) = v := by simp [at_, h]
theorem set_set {α : Type} {xs : List α} {j : Nat} {a b : α} : (xs.set j a).set j b = xs.set j b := by simp
theorem w64_ok {x : Int} (h0 : 0 ≤ x) (h1 : x ≤ 4611686018427387904) : w64 x = x := w64_id (by omega) (by omega)
theorem not_neg {x : Int} (h : 0 ≤ x) : decide (x < 0) = false := decide_eq_false (by omega)
/-- A loop that marks. -/
theorem markL {α : Type} {c : α → Nat} {mv : α → Int → α} {P : α → Prop} {f : Nat → List α → Int → Int → Option (List α × Int)}
    (hend : ∀ k a2 k2 (j : Nat), j = a2.length → f (k + 1) a2 k2 (j : Int) = some (a2, k2))
    (hstep : ∀ k a2 k2 (j : Nat) (h : j < a2.length), P a2[j] → 0 ≤ k2 → k2 + (c a2[j] : Int) ≤ 4611686018427387904 → j < 1048576 → f (k + 1) a2 k2 (j : Int) = f k (a2.set j (mv a2[j] k2)) (k2 + (c a2[j] : Int)) ((j + 1 : Nat) : Int))
    {a : List α} (hP : ∀ y ∈ a, P y) {k0 : Int} (h0 : 0 ≤ k0) (h1 : k0 + (costL c a : Int) ≤ 4611686018427387904) (hl : a.length ≤ 1048576) {k : Nat} (hk : a.length < k) : f k a k0 0 = some (mkL c mv a k0, k0 + (costL c a : Int)) := by
  have := loop (fun k (q : List α × Int × Nat) => f k q.1 q.2.1 (q.2.2 : Int)) (fun q => ∃ done, q.1 = done ++ a.drop q.2.2 ∧ done.length = q.2.2 ∧ q.2.2 ≤ a.length ∧ done ++ mkL c mv (a.drop q.2.2) q.2.1 = mkL c mv a k0 ∧ q.2.1 + (costL c (a.drop q.2.2) : Int) = k0 + (costL c a : Int) ∧ 0 ≤ q.2.1) (fun q => a.length - q.2.2) (fun o => o = some (mkL c mv a k0, k0 + (costL c a : Int))) (fun k q hs => by
    obtain ⟨a2, k2, j⟩ := q
    obtain ⟨done, g1, g2, g3, g4, g5, g6⟩ := hs
    simp only at g1 g2 g3 g4 g5 g6 ⊢
    by_cases hj : j < a.length
    · right
      rw [List.drop_eq_getElem_cons hj] at g1 g4 g5
      have hj2 : j < a2.length := by rw [g1]; simp; omega
      have ha2 : a2[j] = a[j] := by
        have : a2[j]? = some a[j] := by rw [g1, List.getElem?_append_right (by omega), g2]; simp
        rw [List.getElem?_eq_getElem hj2] at this
        exact Option.some.inj this
      simp only [costL, List.map_cons, List.sum_cons, Int.natCast_add] at g5
      have hcost : 0 ≤ (((a.drop (j + 1)).map c).sum : Int) := by omega
      refine ⟨(a2.set j (mv a2[j] k2), k2 + (c a2[j] : Int), j + 1), ⟨done ++ [mv a[j] k2], ?_, by simp [g2], hj, ?_, ?_, by simp only; omega⟩, by simp only; omega, ?_⟩
      · simp only
        rw [ha2, g1, List.set_append_right _ _ (by omega), g2, Nat.sub_self, List.set_cons_zero, List.append_assoc]
        rfl
      · simp only [ha2]
        rw [← g4]; simp [mkL]
      · rw [ha2]; simp only [costL] at g5 ⊢; omega
      · exact hstep k a2 k2 j hj2 (by rw [ha2]; exact hP _ (List.getElem_mem hj)) g6 (by rw [ha2]; simp only [costL] at g5 h1 ⊢; omega) (by omega)
    · left
      have hja : j = a.length := by omega
      subst hja
      rw [List.drop_length] at g1 g4 g5
      rw [hend k a2 k2 a.length (by rw [g1]; simp [g2])]
      simp only [mkL, List.append_nil] at g1 g4
      simp only [costL, List.map_nil, List.sum_nil] at g5
      rw [g1, g4]
      simp only [costL] at g5 ⊢
      congr 2; omega) k (a, k0, 0) (by simpa using hk) ⟨[], by simp, rfl, by simp, by simp, by simp, h0⟩
  exact this
/-- A loop that looks for the marks. -/
theorem heldL {α : Type} {c : α → Nat} {mv : α → Int → α} {P : α → Prop} {f : Nat → List α → Int → Int → Option Int}
    (hend : ∀ k a2 k2 (j : Nat), j = a2.length → f (k + 1) a2 k2 (j : Int) = some k2)
    (hstep : ∀ k a2 k2 (j : Nat) (y : α) (h : j < a2.length), P y → 0 ≤ k2 → k2 + (c y : Int) ≤ 4611686018427387904 → j < 1048576 → a2[j] = mv y k2 → f (k + 1) a2 k2 (j : Int) = f k a2 (k2 + (c y : Int)) ((j + 1 : Nat) : Int))
    {a : List α} (hP : ∀ y ∈ a, P y) {k0 : Int} (h0 : 0 ≤ k0) (h1 : k0 + (costL c a : Int) ≤ 4611686018427387904) (hl : a.length ≤ 1048576) {k : Nat} (hk : a.length < k) : f k (mkL c mv a k0) k0 0 = some (k0 + (costL c a : Int)) := by
  have hlen := mkL_length c mv a k0
  have := loop (fun k (q : Int × Nat) => f k (mkL c mv a k0) q.1 (q.2 : Int)) (fun q => q.2 ≤ a.length ∧ (mkL c mv a k0).drop q.2 = mkL c mv (a.drop q.2) q.1 ∧ q.1 + (costL c (a.drop q.2) : Int) = k0 + (costL c a : Int) ∧ 0 ≤ q.1) (fun q => a.length - q.2) (fun o => o = some (k0 + (costL c a : Int))) (fun k q hs => by
    obtain ⟨k2, j⟩ := q
    obtain ⟨g3, g4, g5, g6⟩ := hs
    simp only at g3 g4 g5 g6 ⊢
    by_cases hj : j < a.length
    · right
      have hj2 : j < (mkL c mv a k0).length := by omega
      rw [List.drop_eq_getElem_cons hj2, List.drop_eq_getElem_cons hj] at g4
      simp only [mkL, List.cons.injEq] at g4
      rw [List.drop_eq_getElem_cons hj] at g5
      simp only [costL, List.map_cons, List.sum_cons, Int.natCast_add] at g5
      have hcost : 0 ≤ (((a.drop (j + 1)).map c).sum : Int) := by omega
      refine ⟨(k2 + (c a[j] : Int), j + 1), ⟨hj, g4.2, ?_, by simp only; omega⟩, by simp only; omega, ?_⟩
      · simp only [costL] at g5 ⊢; omega
      · exact hstep k _ k2 j a[j] hj2 (hP _ (List.getElem_mem hj)) g6 (by simp only [costL] at g5 h1 ⊢; omega) (by omega) g4.1
    · left
      have hja : j = a.length := by omega
      subst hja
      rw [List.drop_length] at g5
      rw [hend k _ k2 a.length hlen.symm]
      simp only [costL, List.map_nil, List.sum_nil] at g5 ⊢
      congr 1; omega) k (k0, 0) (by simpa using hk) ⟨by simp, by simp, by simp, h0⟩
  exact this

abbrev T_IntS := List Int
def in_IntS (a : T_IntS) : Prop := a.length ≤ 9223372036854775807 ∧ ∀ y ∈ a, in_int y
def s_IntS (a : T_IntS) : Nat := a.length
def b_IntS (a : T_IntS) : Prop := a.length ≤ 1048576
theorem b_of_IntS {a : T_IntS} (h : s_IntS a ≤ 1048576) : b_IntS a := h
theorem fto_IntS {N : Nat} {a : T_IntS} (h : b_IntS a) (hN : 1048576 < N) : laws_toIntS N a = some a := by
  have hl : a.length ≤ 1048576 := h
  unfold laws_toIntS laws_toIntS_b
  rw [makeOk_lt (by omega), grd_true]
  refine fill (b := a) (fun k out i => laws_toIntS_l0 N k a out i) (fun k out => by simp [laws_toIntS_l0, laws_toIntS_l0_b]) (fun k out j h1 h3 => ?_) (by omega) (by simp)
  have h2 : j < out.length := by omega
  have hj : (j : Int) < (a.length : Int) := by omega
  simp [laws_toIntS_l0, laws_toIntS_l0_b, hj, inb_lt h1, inb_lt h2, at_lt h1, w64_succ (show j < 4611686018427387904 by omega)]
theorem feq_IntS {N : Nat} {a b : T_IntS} (h : b_IntS a) (hN : 1048576 < N) : laws_eqIntS N a b = some (decide (a = b)) := by
  have hla : a.length ≤ 1048576 := h
  unfold laws_eqIntS laws_eqIntS_b
  by_cases hl : a.length = b.length
  · have h0 : ((a.length : Int) != (b.length : Int)) = false := by simp [hl]
    rw [h0, cond_false, decide_eq_decide.2 (list_eq_iff' hl)]
    refine every (n := a.length) (fun j => decide (a[j]? = b[j]?)) (fun k i => laws_eqIntS_l0 N k a b i) (fun k => by simp [laws_eqIntS_l0, laws_eqIntS_l0_b]) (fun k j hj => ?_) (by omega)
    have h1 : (j : Int) < (a.length : Int) := by omega
    have h2 : j < b.length := by omega
    simp only [laws_eqIntS_l0, laws_eqIntS_l0_b, h1, decide_true, cond_true, inb_lt hj, inb_lt h2, grd_true, at_lt hj, at_lt h2, bneI, ite_dec, w64_succ (show j < 4611686018427387904 by omega), List.getElem?_eq_getElem hj, List.getElem?_eq_getElem h2, Option.some.injEq]
  · have h0 : ((a.length : Int) != (b.length : Int)) = true := by simp; omega
    rw [h0, cond_true]
    have : a ≠ b := fun h => hl (by rw [h])
    simp [this]
theorem fsz_IntS {N : Nat} {a : T_IntS} {l : Int} (h : in_IntS a) (h0 : 0 ≤ l) (h1 : l ≤ 1048576) (hN : 1048576 < N) : laws_szIntS N a l = some (sub1 l (s_IntS a)) := by
  have := h.1
  unfold laws_szIntS s_IntS sub1
  rw [w64_id (by omega) (by omega)]
  by_cases h : (a.length : Int) ≤ l
  · rw [if_pos h, decide_eq_false (by omega)]; rfl
  · rw [if_neg h, decide_eq_true (by omega)]; rfl
def me_IntS (N : Nat) (x : Int) (k : Int) : Int := k
def ce_IntS (x : Int) : Nat := 1
def mk_IntS (N : Nat) (a : T_IntS) (k : Int) : T_IntS := mkL ce_IntS (me_IntS N) a k
def c_IntS (a : T_IntS) : Nat := costL ce_IntS a
theorem fmk_IntS {N : Nat} {a : T_IntS} {k : Int} (h : b_IntS a) (h0 : 0 ≤ k) (h1 : k + (c_IntS a : Int) ≤ 4611686018427387904) (hN : 1048576 < N) : laws_markIntS N a k = some (mk_IntS N a k, k + (c_IntS a : Int)) := by
  have hla : a.length ≤ 1048576 := h
  unfold laws_markIntS laws_markIntS_b
  refine markL (P := fun y => True) (f := fun k a2 k2 i => laws_markIntS_l0 N k a2 k2 i) (fun k a2 k2 j hj => by subst hj; simp [laws_markIntS_l0, laws_markIntS_l0_b]) (fun k a2 k2 j h1 hy h0 hc hl => ?_) (fun _ _ => trivial) h0 h1 (by omega) (by omega)
  have h2 : (j : Int) < (a2.length : Int) := by omega
  simp only [ce_IntS, Int.natCast_add, Int.cast_ofNat_Int, Int.natCast_one] at hc
  simp (disch := first | assumption | omega) only [laws_markIntS_l0, laws_markIntS_l0_b, h2, decide_true, cond_true, inb_lt h1, inb_set, grd_true, grz_ne, letv_eq, at_lt h1, at_set, set_set, Int.toNat_natCast, w64_ok, w64_succ, Option.bind_some, Option.bind_some]
  simp only [ce_IntS, me_IntS, Int.natCast_add, Int.cast_ofNat_Int, Int.natCast_one, Int.add_assoc]
theorem fhd_IntS {N : Nat} {a : T_IntS} {k : Int} (h : b_IntS a) (h0 : 0 ≤ k) (h1 : k + (c_IntS a : Int) ≤ 4611686018427387904) (hN : 1048576 < N) : laws_heldIntS N (mk_IntS N a k) k = some (k + (c_IntS a : Int)) := by
  have hla : a.length ≤ 1048576 := h
  unfold laws_heldIntS laws_heldIntS_b
  refine heldL (P := fun y => True) (f := fun k a2 k2 i => laws_heldIntS_l0 N k a2 k2 i) (fun k a2 k2 j hj => by subst hj; simp [laws_heldIntS_l0, laws_heldIntS_l0_b]) (fun k a2 k2 j y h1 hy h0 hc hl he => ?_) (fun _ _ => trivial) h0 h1 (by omega) (by omega)
  have h2 : (j : Int) < (a2.length : Int) := by omega
  simp only [ce_IntS, Int.natCast_add, Int.cast_ofNat_Int, Int.natCast_one] at hc
  simp only [laws_heldIntS_l0, laws_heldIntS_l0_b, h2, decide_true, cond_true, inb_lt h1, grd_true, at_lt h1, he, me_IntS]
  simp (disch := first | assumption | omega) only [bneI, bneB, beqB, decide_true, Bool.not_true, cond_false, w64_ok, w64_succ, Option.bind_some, not_neg, grz_ne, Int.add_assoc, Option.bind_some]
  simp only [ce_IntS, Int.natCast_add, Int.cast_ofNat_Int, Int.natCast_one, Int.add_assoc]
abbrev T_IntSS := List T_IntS
def in_IntSS (a : T_IntSS) : Prop := a.length ≤ 9223372036854775807 ∧ ∀ y ∈ a, in_IntS y
def s_IntSS (a : T_IntSS) : Nat := sumL s_IntS a
def b_IntSS (a : T_IntSS) : Prop := a.length ≤ 1048576 ∧ ∀ y ∈ a, b_IntS y
theorem b_of_IntSS {a : T_IntSS} (h : s_IntSS a ≤ 1048576) : b_IntSS a := ⟨(sumL_len h), fun y hy => b_of_IntS (Nat.le_trans (sumL_mem hy) h)⟩
theorem fto_IntSS {N : Nat} {a : T_IntSS} (h : b_IntSS a) (hN : 1048576 < N) : laws_toIntSS N a = some a := by
  have hl : a.length ≤ 1048576 := h.1
  unfold laws_toIntSS laws_toIntSS_b
  rw [makeOk_lt (by omega), grd_true]
  refine fill (b := a) (fun k out i => laws_toIntSS_l0 N k a out i) (fun k out => by simp [laws_toIntSS_l0, laws_toIntSS_l0_b]) (fun k out j h1 h3 => ?_) (by omega) (by simp)
  have h2 : j < out.length := by omega
  have hj : (j : Int) < (a.length : Int) := by omega
  simp [laws_toIntSS_l0, laws_toIntSS_l0_b, hj, inb_lt h1, inb_lt h2, at_lt h1, fto_IntS (h.2 _ (List.getElem_mem h1)) hN, w64_succ (show j < 4611686018427387904 by omega)]
theorem feq_IntSS {N : Nat} {a b : T_IntSS} (h : b_IntSS a) (hN : 1048576 < N) : laws_eqIntSS N a b = some (decide (a = b)) := by
  have hla : a.length ≤ 1048576 := h.1
  unfold laws_eqIntSS laws_eqIntSS_b
  by_cases hl : a.length = b.length
  · have h0 : ((a.length : Int) != (b.length : Int)) = false := by simp [hl]
    rw [h0, cond_false, decide_eq_decide.2 (list_eq_iff' hl)]
    refine every (n := a.length) (fun j => decide (a[j]? = b[j]?)) (fun k i => laws_eqIntSS_l0 N k a b i) (fun k => by simp [laws_eqIntSS_l0, laws_eqIntSS_l0_b]) (fun k j hj => ?_) (by omega)
    have h1 : (j : Int) < (a.length : Int) := by omega
    have h2 : j < b.length := by omega
    simp only [laws_eqIntSS_l0, laws_eqIntSS_l0_b, h1, decide_true, cond_true, inb_lt hj, inb_lt h2, grd_true, at_lt hj, at_lt h2, feq_IntS (h.2 _ (List.getElem_mem hj)) hN, Option.bind_some, ite_dec, w64_succ (show j < 4611686018427387904 by omega), List.getElem?_eq_getElem hj, List.getElem?_eq_getElem h2, Option.some.injEq]
  · have h0 : ((a.length : Int) != (b.length : Int)) = true := by simp; omega
    rw [h0, cond_true]
    have : a ≠ b := fun h => hl (by rw [h])
    simp [this]
theorem fsz_IntSS {N : Nat} {a : T_IntSS} {l : Int} (h : in_IntSS a) (h0 : 0 ≤ l) (h1 : l ≤ 1048576) (hN : 1048576 < N) : laws_szIntSS N a l = some (sub1 l (s_IntSS a)) := by
  have hlen := h.1
  unfold laws_szIntSS laws_szIntSS_b
  rw [w64_id (by omega) (by omega)]
  by_cases hc : (a.length : Int) ≤ l
  · rw [decide_eq_false (by omega), cond_false]
    rw [szL (a := a) (s := s_IntS) (g := fun x l => laws_szIntS N x l) (f := fun k l i => laws_szIntSS_l0 N k a l i) (fun x hx l h0 h1 => fsz_IntS (h.2 x hx) h0 h1 hN) (fun k l => by simp [laws_szIntSS_l0, laws_szIntSS_l0_b]) (fun k l j hj => by
        have h2 : (j : Int) < (a.length : Int) := by omega
        simp only [laws_szIntSS_l0, laws_szIntSS_l0_b, h2, decide_true, cond_true, inb_lt hj, grd_true, at_lt hj, w64_succ (show j < 4611686018427387904 by omega)]) (by omega) (by omega) (by omega)]
    unfold s_IntSS sumL sub1
    congr 1
    split <;> split <;> omega
  · rw [decide_eq_true (by omega), cond_true]
    unfold s_IntSS sumL sub1
    rw [if_neg (by omega)]
def me_IntSS (N : Nat) (x : T_IntS) (k : Int) : T_IntS := mk_IntS N x k
def ce_IntSS (x : T_IntS) : Nat := c_IntS x
def mk_IntSS (N : Nat) (a : T_IntSS) (k : Int) : T_IntSS := mkL ce_IntSS (me_IntSS N) a k
def c_IntSS (a : T_IntSS) : Nat := costL ce_IntSS a
theorem fmk_IntSS {N : Nat} {a : T_IntSS} {k : Int} (h : b_IntSS a) (h0 : 0 ≤ k) (h1 : k + (c_IntSS a : Int) ≤ 4611686018427387904) (hN : 1048576 < N) : laws_markIntSS N a k = some (mk_IntSS N a k, k + (c_IntSS a : Int)) := by
  have hla : a.length ≤ 1048576 := h.1
  unfold laws_markIntSS laws_markIntSS_b
  refine markL (P := fun y => b_IntS y) (f := fun k a2 k2 i => laws_markIntSS_l0 N k a2 k2 i) (fun k a2 k2 j hj => by subst hj; simp [laws_markIntSS_l0, laws_markIntSS_l0_b]) (fun k a2 k2 j h1 hy h0 hc hl => ?_) h.2 h0 h1 (by omega) (by omega)
  have h2 : (j : Int) < (a2.length : Int) := by omega
  simp only [ce_IntSS, Int.natCast_add, Int.cast_ofNat_Int, Int.natCast_one] at hc
  simp (disch := first | assumption | omega) only [laws_markIntSS_l0, laws_markIntSS_l0_b, h2, decide_true, cond_true, inb_lt h1, inb_set, grd_true, grz_ne, letv_eq, at_lt h1, at_set, set_set, Int.toNat_natCast, w64_ok, w64_succ, Option.bind_some, fmk_IntS]
  simp only [ce_IntSS, me_IntSS, Int.natCast_add, Int.cast_ofNat_Int, Int.natCast_one, Int.add_assoc]
theorem fhd_IntSS {N : Nat} {a : T_IntSS} {k : Int} (h : b_IntSS a) (h0 : 0 ≤ k) (h1 : k + (c_IntSS a : Int) ≤ 4611686018427387904) (hN : 1048576 < N) : laws_heldIntSS N (mk_IntSS N a k) k = some (k + (c_IntSS a : Int)) := by
  have hla : a.length ≤ 1048576 := h.1
  unfold laws_heldIntSS laws_heldIntSS_b
  refine heldL (P := fun y => b_IntS y) (f := fun k a2 k2 i => laws_heldIntSS_l0 N k a2 k2 i) (fun k a2 k2 j hj => by subst hj; simp [laws_heldIntSS_l0, laws_heldIntSS_l0_b]) (fun k a2 k2 j y h1 hy h0 hc hl he => ?_) h.2 h0 h1 (by omega) (by omega)
  have h2 : (j : Int) < (a2.length : Int) := by omega
  simp only [ce_IntSS, Int.natCast_add, Int.cast_ofNat_Int, Int.natCast_one] at hc
  simp only [laws_heldIntSS_l0, laws_heldIntSS_l0_b, h2, decide_true, cond_true, inb_lt h1, grd_true, at_lt h1, he, me_IntSS]
  simp (disch := first | assumption | omega) only [bneI, bneB, beqB, decide_true, Bool.not_true, cond_false, w64_ok, w64_succ, Option.bind_some, not_neg, grz_ne, Int.add_assoc, fhd_IntS]
  simp only [ce_IntSS, Int.natCast_add, Int.cast_ofNat_Int, Int.natCast_one, Int.add_assoc]
end Go.PL
namespace Go.PL
set_option linter.unusedVariables false
/-- A loop that appends a piece for each element. -/
theorem collect {α β : Type} {a : List α} (piece : α → List β) {f : Nat → List β → Int → Option (List β)} (hp : ∀ x ∈ a, (piece x).length ≤ 1) (hend : ∀ k out, f (k + 1) out (a.length : Int) = some out)
    (hstep : ∀ k out j (h : j < a.length), out.length ≤ j → f (k + 1) out (j : Int) = f k (out ++ piece a[j]) ((j + 1 : Nat) : Int)) {k : Nat} (hk : a.length < k) : f k [] 0 = some (a.flatMap piece) := by
  have := loop (fun k (q : List β × Nat) => f k q.1 (q.2 : Int)) (fun q => q.2 ≤ a.length ∧ q.1.length ≤ q.2 ∧ q.1 ++ (a.drop q.2).flatMap piece = a.flatMap piece) (fun q => a.length - q.2) (fun o => o = some (a.flatMap piece)) (fun k q hs => by
    obtain ⟨out, j⟩ := q
    obtain ⟨h1, h2, h3⟩ := hs
    simp only at h1 h2 h3 ⊢
    by_cases hj : j < a.length
    · right
      refine ⟨(out ++ piece a[j], j + 1), ⟨hj, ?_, ?_⟩, by simp only; omega, hstep k out j hj h2⟩
      · have := hp a[j] (List.getElem_mem hj)
        simp only [List.length_append]; omega
      · rw [← h3, List.drop_eq_getElem_cons hj, List.flatMap_cons, List.append_assoc]
    · left
      have : j = a.length := by omega
      subst this
      rw [hend, ← h3, List.drop_length]; simp) k ([], 0) (by simpa using hk) ⟨by simp, by simp, by simp⟩
  exact this
theorem appOk_lt {α : Type} {s x : List α} {b : Nat} (h : (s.length + x.length) * b ≤ 140737488355328) : appOk s x b = true := decide_eq_true h
theorem flatMap_len {α β : Type} {piece : α → List β} {n : Nat} : ∀ {a : List α}, (∀ x ∈ a, (piece x).length ≤ n) → (a.flatMap piece).length ≤ a.length * n
  | [], _ => by simp
  | x :: a, h => by
    have h1 := h x (by simp)
    have h2 := flatMap_len (a := a) fun y hy => h y (by simp [hy])
    rw [List.flatMap_cons, List.length_append, List.length_cons, Nat.add_mul]; omega

/-- The clauses that indices choose. -/
def selC (l : List (List Int)) (i : Int) : List (List Int) := if 0 ≤ i ∧ i ≤ (l.length : Int) - 1 then [at_ [] l i] else []
def selL (l : List (List Int)) (ix : List Int) : List (List Int) := ix.flatMap (selC l)
theorem selC_len (l : List (List Int)) (i : Int) : (selC l i).length ≤ 1 := by unfold selC; split <;> simp
theorem within_ {N : Nat} (x a b : Int) : impl_within N x a b = some (decide (a ≤ x ∧ x ≤ b)) := by
  unfold impl_within
  by_cases h : a ≤ x <;> simp [h]
theorem l1In_ {N : Nat} (x a b : Int) : spec_l1In N x a b = some (decide (a ≤ x ∧ x ≤ b)) := by
  unfold spec_l1In
  by_cases h : a ≤ x <;> simp [h]
theorem selB {l : List (List Int)} {ix : List Int} (hl : b_IntSS l) (hx : ix.length ≤ 1048576) : b_IntSS (selL l ix) := by
  refine ⟨Nat.le_trans (flatMap_len (n := 1) fun x _ => selC_len l x) (by omega), fun y hy => ?_⟩
  simp only [selL, List.mem_flatMap] at hy
  obtain ⟨i, _, hy⟩ := hy
  unfold selC at hy
  split at hy
  · rename_i h
    obtain rfl : y = _ := by simpa using hy
    rw [at_int h.1 (by omega)]
    exact hl.2 _ (List.getElem_mem _)
  · simp at hy
theorem at_len {l : List (List Int)} (hl : b_IntSS l) {i : Int} (h0 : 0 ≤ i) (h1 : i < (l.length : Int)) : (at_ [] l i).length ≤ 1048576 := by
  rw [at_int h0 h1]
  exact hl.2 _ (List.getElem_mem _)
theorem specSelect {N : Nat} {l : List (List Int)} {ix : List Int} (hl : b_IntSS l) (hx : ix.length ≤ 1048576) (hN : 1048576 < N) : spec_SelectClauses N l ix = some (selL l ix) := by
  have hll : l.length ≤ 1048576 := hl.1
  unfold spec_SelectClauses spec_SelectClauses_b
  refine collect (a := ix) (selC l) (f := fun k out i => spec_SelectClauses_l0 N k l ix out i) (fun x _ => selC_len l x) (fun k out => by simp [spec_SelectClauses_l0, spec_SelectClauses_l0_b]) (fun k out j hj ho => ?_) (by omega)
  have h1 : (j : Int) < (ix.length : Int) := by omega
  simp only [spec_SelectClauses_l0, spec_SelectClauses_l0_b, h1, decide_true, cond_true, inb_lt hj, grd_true, at_lt hj, l1In_, Option.bind_some, w64_succ (show j < 4611686018427387904 by omega)]
  rw [w64_id (by omega) (by omega)]
  unfold selC
  by_cases h : 0 ≤ ix[j] ∧ ix[j] ≤ (l.length : Int) - 1
  · have h2 := at_len hl h.1 (by omega)
    rw [decide_eq_true h, cond_true, if_pos h, inb_int h.1 (by omega), grd_true, appOk_lt (by simp; omega), grd_true, appOk_lt (by simp; omega), grd_true]
  · rw [decide_eq_false h, cond_false, if_neg h, List.append_nil]
theorem implSelect {N : Nat} {l : List (List Int)} {ix : List Int} (hl : b_IntSS l) (hx : ix.length ≤ 1048576) (hN : 1048576 < N) : impl_SelectClauses N l ix = some (selL l ix) := by
  have hll : l.length ≤ 1048576 := hl.1
  unfold impl_SelectClauses impl_SelectClauses_b
  refine collect (a := ix) (selC l) (f := fun k out i => impl_SelectClauses_l0 N k l out ix (ix.length : Int) i) (fun x _ => selC_len l x) (fun k out => by simp [impl_SelectClauses_l0, impl_SelectClauses_l0_b]) (fun k out j hj ho => ?_) (by omega)
  have h1 : (j : Int) < (ix.length : Int) := by omega
  simp only [impl_SelectClauses_l0, impl_SelectClauses_l0_b, h1, decide_true, cond_true, inb_lt hj, grd_true, at_lt hj, within_, Option.bind_some, w64_succ (show j < 4611686018427387904 by omega)]
  rw [w64_id (by omega) (by omega)]
  unfold selC
  by_cases h : 0 ≤ ix[j] ∧ ix[j] ≤ (l.length : Int) - 1
  · have h2 := at_len hl h.1 (by omega)
    rw [decide_eq_true h, cond_true, if_pos h, inb_int h.1 (by omega), grd_true, appOk_lt (by simp; omega), grd_true, appOk_lt (by simp; omega), grd_true]
  · rw [decide_eq_false h, cond_false, if_neg h, List.append_nil]

/-- What marks cost. -/
theorem cost_le {α : Type} {c : α → Nat} {n : Nat} : ∀ {a : List α}, (∀ x ∈ a, c x ≤ n) → costL c a ≤ a.length * n
  | [], _ => by simp [costL]
  | x :: a, h => by
    have h1 := h x (by simp)
    have h2 := cost_le (a := a) fun y hy => h y (by simp [hy])
    simp only [costL, List.map_cons, List.sum_cons, List.length_cons] at h2 ⊢
    rw [Nat.add_mul]; omega
theorem c_IntS_eq (a : List Int) : c_IntS a = a.length := by
  unfold c_IntS costL
  have : ce_IntS = fun _ => 1 := rfl
  rw [this]
  induction a with
  | nil => rfl
  | cons x a ih => simp only [List.map_cons, List.sum_cons, List.length_cons, ih]; omega
theorem c_IntSS_le {a : List (List Int)} (h : b_IntSS a) : c_IntSS a ≤ 1099511627776 := by
  have := cost_le (c := ce_IntSS) (n := 1048576) (a := a) fun x hx => by
    show c_IntS x ≤ 1048576
    rw [c_IntS_eq]; exact h.2 x hx
  have h2 : a.length ≤ 1048576 := h.1
  exact Nat.le_trans this (Nat.le_trans (Nat.mul_le_mul_right 1048576 h2) (by decide))
end Go.PL
namespace Go.PL
theorem law_SelectClauses {N : Nat} (hN : 1048576 < N) {cl : List (List Int)} {ix : List Int} (hc : in_IntSS cl) : laws_FnExactSelectClauses N cl ix = some true := by
  unfold laws_FnExactSelectClauses
  by_cases h0 : (ix.length : Int) > 1048576
  · rw [decide_eq_true h0]; rfl
  rw [decide_eq_false h0, cond_false, fsz_IntSS hc (by omega) (by omega) hN, Option.bind_some]
  by_cases h1 : (s_IntSS cl : Int) ≤ 1048576
  case neg => rw [sub1_neg h1]; rfl
  rw [sub1_pos h1, not_neg (by omega), cond_false]
  have hb : b_IntSS cl := b_of_IntSS (by omega)
  have hx : b_IntS ix := by show ix.length ≤ 1048576; omega
  have hr := selB hb hx
  have hcr := c_IntSS_le hr
  have hcc := c_IntSS_le hb
  have hci := c_IntS_eq ix
  have hx' : ix.length ≤ 1048576 := hx
  simp only [fto_IntSS hb hN, fto_IntS hx hN, Option.bind_some, specSelect hb hx hN, implSelect hb hx hN, feq_IntSS hr hN, feq_IntSS hb hN, feq_IntS hx hN, decide_true, Bool.not_true, cond_false]
  rw [fmk_IntSS hb (by omega) (by omega) hN, Option.bind_some]
  simp only
  rw [fmk_IntS hx (by omega) (by omega) hN, Option.bind_some]
  simp only
  rw [not_neg (by omega), cond_false, fmk_IntSS hr (by omega) (by omega) hN, Option.bind_some]
  simp only [fhd_IntSS hr (show (0 : Int) ≤ 1 by omega) (by omega) hN, Option.bind_some]
  rw [not_neg (by omega)]
  simp
end Go.PL
