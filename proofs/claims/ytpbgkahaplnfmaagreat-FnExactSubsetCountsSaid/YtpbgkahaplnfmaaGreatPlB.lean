/- The plain law of the functions read plainly. Conditions: those that stand in each theorem. -/
import Derived.Test.YtpbgkahaplnfmaaGreatPlA

set_option linter.unusedVariables false
set_option linter.unusedSimpArgs false
set_option linter.unnecessarySimpa false

namespace Go.PL
variable {N : Nat}
theorem w64_id {x : Int} (h1 : -9223372036854775808 <= x) (h2 : x <= 9223372036854775807) : w64 x = x := by
 unfold w64 IntKind.wrap
 simp [IntKind.bits, IntKind.signed]
 omega
theorem w64_succ {j : Nat} (h : j < 4611686018427387904) : w64 ((j : Int) + 1) = ((j + 1 : Nat) : Int) := by
 rw [w64_id (by omega) (by omega)]; omega
@[simp] theorem grd_true {α : Type} (x : Option α) : grd true x = x := rfl
@[simp] theorem grd_false {α : Type} (x : Option α) : grd false x = none := rfl
@[simp] theorem letv_eq {α β : Type} (v : α) (k : α -> β) : letv v k = k v := rfl
theorem inb_nat {α : Type} (j : Nat) (xs : List α) : inb (j : Int) xs = decide (j < xs.length) := by
 simp [inb]
theorem inb_lt {α : Type} {j : Nat} {xs : List α} (h : j < xs.length) : inb (j : Int) xs = true := by simp [inb_nat, h]
theorem at_lt {α : Type} {d : α} {j : Nat} {xs : List α} (h : j < xs.length) : at_ d xs (j : Int) = xs[j] := by simp [at_, h]
theorem makeOk_lt {n : Nat} {b : Nat} (h : n * b <= 140737488355328) : makeOk (n : Int) b = true := by
 have h1 : (n : Int) * (b : Int) <= 140737488355328 := by rw [<- Int.natCast_mul]; omega
 have h2 : (0 : Int) <= n := by omega
 simp only [makeOk, h1, h2, decide_true, Bool.and_self]
theorem bytes_loop (bs : ByteArray) : ∀ (m i : Nat) (r : List UInt8), bs.size - i = m -> ByteArray.toList.loop bs i r = r.reverse ++ bs.data.toList.drop i
 | 0, i, r, h => by
  have hs : bs.data.toList.length = bs.size := rfl
  unfold ByteArray.toList.loop
  rw [if_neg (by omega), List.drop_of_length_le (by omega)]; simp
 | m + 1, i, r, h => by
  have hs : bs.data.toList.length = bs.size := rfl
  unfold ByteArray.toList.loop
  rw [if_pos (by omega), bytes_loop bs m (i + 1) _ (by omega)]
  have hi : i < bs.data.toList.length := by omega
  rw [List.drop_eq_getElem_cons hi]
  have hi2 : i < bs.data.size := by simpa using hi
  have : bs.get! i = bs.data.toList[i] := by
   show bs.data[i]! = _
   rw [getElem!_pos bs.data i hi2]; simp
  rw [this]; simp
theorem bytes_toList (bs : ByteArray) : bs.toList = bs.data.toList := by
 unfold ByteArray.toList; rw [bytes_loop bs _ 0 [] rfl]; simp
theorem seq_eq (a b : ByteArray) : seq a b = decide (a = b) := by
 unfold seq
 rw [bytes_toList, bytes_toList]
 by_cases h : a = b
 ·subst h; simp
 ·have : ¬ a.data = b.data := fun h2 => h (ByteArray.ext h2)
  simp [h, this]
theorem bneI (a b : Int) : (a != b) = !decide (a = b) := by by_cases h : a = b <;> simp [h]
theorem beqI (a b : Int) : (a == b) = decide (a = b) := by by_cases h : a = b <;> simp [h]
theorem ite_dec {p : Prop} [Decidable p] {α : Type} (x y : Option α) : (bif !decide p then x else y) = if decide p then y else x := by by_cases h : p <;> simp [h]
theorem loop {σ R : Type} (f : Nat -> σ -> Option R) (I : σ -> Prop) (μ : σ -> Nat) (Q : Option R -> Prop) (hstep : ∀ k s, I s -> Q (f (k + 1) s) \/ ∃ s', I s' /\ μ s' < μ s /\ f (k + 1) s = f k s') : ∀ (k : Nat) (s : σ), μ s < k -> I s -> Q (f k s)
 | 0, s, hk, hs => by omega
 | k + 1, s, hk, hs => by
  rcases hstep k s hs with h | ⟨s', h1, h2, h3⟩
  ·exact h
  ·rw [h3]
   exact loop f I μ Q hstep k s' (by omega) h1
theorem take_succ_set {α : Type} {out a : List α} {j : Nat} {y : α} (h1 : j < a.length) (h2 : j < out.length) (ht : out.take j = a.take j) (hy : y = a[j]) : (out.set j y).take (j + 1) = a.take (j + 1) := by
 subst hy
 rw [List.take_set, List.take_succ_eq_append_getElem h2, List.take_succ_eq_append_getElem h1, ht]
 simp [List.set_append_right, List.length_take, Nat.min_eq_left (Nat.le_of_lt h1)]
theorem fill {β : Type} {b : List β} (f : Nat -> List β -> Int -> Option (List β)) (hend : ∀ k out, f (k + 1) out (b.length : Int) = some out)
  (hstep : ∀ k out j (h : j < b.length), out.length = b.length -> f (k + 1) out (j : Int) = f k (out.set j b[j]) ((j + 1 : Nat) : Int)) {k : Nat} (hk : b.length < k) {out : List β} (ho : out.length = b.length) : f k out 0 = some b := by
 have := loop (fun k (s : List β × Nat) => f k s.1 (s.2 : Int)) (fun s => s.1.length = b.length /\ s.2 <= b.length /\ s.1.take s.2 = b.take s.2) (fun s => b.length - s.2) (fun o => o = some b) (fun k s hs => by
  obtain ⟨out, j⟩ := s
  obtain ⟨h1, h2, h3⟩ := hs
  simp only at h1 h2 h3 ⊢
  by_cases hj : j < b.length
  ·right
   exact ⟨(out.set j b[j], j + 1), ⟨by simp [h1], hj, take_succ_set hj (by omega) h3 rfl⟩, by simp only; omega, hstep k out j hj h1⟩
  ·left
   have : j = b.length := by omega
   subst this
   rw [hend, <- List.take_of_length_le (Nat.le_of_eq h1), h3, List.take_length]) k (out, 0) (by simpa using hk) ⟨ho, by simp, by simp⟩
 exact this
theorem every {n : Nat} (p : Nat -> Bool) (f : Nat -> Int -> Option Bool) (hend : ∀ k, f (k + 1) (n : Int) = some true) (hstep : ∀ k j, j < n -> f (k + 1) (j : Int) = if p j then f k ((j + 1 : Nat) : Int) else some false) {k : Nat} (hk : n < k) : f k 0 = some (decide (∀ j, j < n -> p j = true)) := by
 have := loop (fun k (j : Nat) => f k (j : Int)) (fun j => j <= n /\ ∀ i, i < j -> p i = true) (fun j => n - j) (fun o => o = some (decide (∀ j, j < n -> p j = true))) (fun k j hs => by
  obtain ⟨h1, h2⟩ := hs
  by_cases hj : j < n
  ·rw [hstep k j hj]
   cases hp : p j with
   | true =>
    right
    exact ⟨j + 1, ⟨hj, fun i hi => by rcases Nat.lt_or_eq_of_le (Nat.le_of_lt_succ hi) with h | h; exact h2 i h; rw [h]; exact hp⟩, by omega, by simp⟩
   | false =>
    left
    have : ¬ ∀ j, j < n -> p j = true := fun h => by have := h j hj; rw [hp] at this; simp at this
    simp [this]
  ·left
   have : j = n := by omega
   subst this
   rw [hend]
   simp only [Option.some.injEq]
   symm
   simpa using h2) k 0 (by simpa using hk) ⟨by omega, by omega⟩
 exact this
theorem everyE {R : Type} {n : Nat} (p : Nat -> Bool) (no e : Option R) (f : Nat -> Int -> Option R) (hend : ∀ k, f (k + 1) (n : Int) = e) (hstep : ∀ k j, j < n -> f (k + 1) (j : Int) = if p j then f k ((j + 1 : Nat) : Int) else no) {k : Nat} (hk : n < k) : f k 0 = if ∀ j, j < n -> p j = true then e else no := by
 have := loop (fun k (j : Nat) => f k (j : Int)) (fun j => j <= n /\ ∀ i, i < j -> p i = true) (fun j => n - j) (fun o => o = if ∀ j, j < n -> p j = true then e else no) (fun k j hs => by
  obtain ⟨h1, h2⟩ := hs
  by_cases hj : j < n
  ·rw [hstep k j hj]
   cases hp : p j with
   | true =>
    right
    exact ⟨j + 1, ⟨hj, fun i hi => by rcases Nat.lt_or_eq_of_le (Nat.le_of_lt_succ hi) with h | h; exact h2 i h; rw [h]; exact hp⟩, by omega, by simp⟩
   | false =>
    left
    have : ¬ ∀ j, j < n -> p j = true := fun h => by have := h j hj; rw [hp] at this; simp at this
    simp [this]
  ·left
   have : j = n := by omega
   subst this
   rw [hend, if_pos h2]) k 0 (by simpa using hk) ⟨by omega, by omega⟩
 exact this
theorem first {n : Nat} (p : Nat -> Bool) (f : Nat -> Int -> Option Int) (hend : ∀ k, f (k + 1) (n : Int) = some (-1)) (hstep : ∀ k j, j < n -> f (k + 1) (j : Int) = if p j then some (j : Int) else f k ((j + 1 : Nat) : Int)) {k : Nat} (hk : n < k) :
  (∃ j, j < n /\ p j = true /\ (∀ i, i < j -> p i = false) /\ f k 0 = some (j : Int)) \/ ((∀ i, i < n -> p i = false) /\ f k 0 = some (-1)) := by
 have := loop (fun k (j : Nat) => f k (j : Int)) (fun j => j <= n /\ ∀ i, i < j -> p i = false) (fun j => n - j) (fun o => (∃ j, j < n /\ p j = true /\ (∀ i, i < j -> p i = false) /\ o = some (j : Int)) \/ ((∀ i, i < n -> p i = false) /\ o = some (-1))) (fun k j hs => by
  obtain ⟨h1, h2⟩ := hs
  by_cases hj : j < n
  ·rw [hstep k j hj]
   cases hp : p j with
   | true => left; left; exact ⟨j, hj, hp, h2, rfl⟩
   | false =>
    right
    exact ⟨j + 1, ⟨hj, fun i hi => by rcases Nat.lt_or_eq_of_le (Nat.le_of_lt_succ hi) with h | h; exact h2 i h; rw [h]; exact hp⟩, by omega, by simp⟩
  ·left; right
   have : j = n := by omega
   subst this
   exact ⟨h2, hend k⟩) k 0 (by simpa using hk) ⟨by omega, by omega⟩
 exact this
theorem w64_pred {j : Nat} (h : 0 < j) (h2 : j < 4611686018427387904) : w64 ((j : Int) - 1) = ((j - 1 : Nat) : Int) := by
 rw [w64_id (by omega) (by omega)]; omega
theorem inb_int {α : Type} {i : Int} {xs : List α} (h0 : 0 <= i) (h : i < xs.length) : inb i xs = true := by simp [inb, h0, h]
theorem at_int {α : Type} {d : α} {i : Int} {xs : List α} (h0 : 0 <= i) (h : i < xs.length) : at_ d xs i = xs[i.toNat]'(by omega) := by
 unfold at_
 rw [List.getD_eq_getElem?_getD, List.getElem?_eq_getElem (by omega)]
 rfl
def in_int (x : Int) : Prop := IntKind.min .i64 <= x /\ x <= IntKind.max .i64
def in_str (x : ByteArray) : Prop := x.size <= 9223372036854775807
def s_str (x : ByteArray) : Nat := x.size
def b_str (x : ByteArray) : Prop := x.size <= 1048576
theorem b_of_str {x : ByteArray} (h : s_str x <= 1048576) : b_str x := h
theorem bneB (a b : Bool) : (a != b) = !decide (a = b) := by cases a <;> cases b <;> rfl
theorem beqB (a b : Bool) : (a == b) = decide (a = b) := by cases a <;> cases b <;> rfl
theorem list_eq_iff' {α : Type} [DecidableEq α] {a b : List α} (h : a.length = b.length) : (a = b) ↔ ∀ j, j < a.length -> (decide (a[j]? = b[j]?)) = true := by
 constructor
 ·rintro rfl j _; simp
 ·intro h2
  apply List.ext_getElem?
  intro j
  by_cases hj : j < a.length
  ·simpa using h2 j hj
  ·rw [List.getElem?_eq_none (by omega), List.getElem?_eq_none (by omega)]
def sub1 (l : Int) (s : Nat) : Int := if (s : Int) <= l then l - s else -1
theorem sub1_pos {l : Int} {s : Nat} (h : (s : Int) <= l) : sub1 l s = l - s := if_pos h
theorem sub1_neg {l : Int} {s : Nat} (h : ¬ (s : Int) <= l) : sub1 l s = -1 := if_neg h
def sumL {α : Type} (s : α -> Nat) (a : List α) : Nat := a.length + (a.map s).sum
theorem sumL_len {α : Type} {s : α -> Nat} {a : List α} {m : Nat} (h : sumL s a <= m) : a.length <= m := Nat.le_trans (Nat.le_add_right _ _) h
theorem sum_mem {α : Type} {s : α -> Nat} : ∀ {a : List α} {y : α}, y ∈ a -> s y <= (a.map s).sum
 | [], y, h => by simp at h
 | x :: a, y, h => by
  rcases List.mem_cons.1 h with rfl | h
  ·simp
  ·have := sum_mem (s := s) h
   simp only [List.map_cons, List.sum_cons]; omega
theorem sumL_mem {α : Type} {s : α -> Nat} {a : List α} {y : α} (h : y ∈ a) : s y <= sumL s a := Nat.le_trans (sum_mem h) (Nat.le_add_left _ _)
theorem szL {α : Type} {a : List α} {s : α -> Nat} {g : α -> Int -> Option Int} {f : Nat -> Int -> Int -> Option Int} (hg : ∀ x ∈ a, ∀ l : Int, 0 <= l -> l <= 1048576 -> g x l = some (sub1 l (s x)))
  (hend : ∀ k l, f (k + 1) l (a.length : Int) = some l) (hstep : ∀ k l j (h : j < a.length), f (k + 1) l (j : Int) = (g a[j] l).bind fun r => bif decide (r < 0) then some (-1) else f k r ((j + 1 : Nat) : Int))
  {k : Nat} (hk : a.length < k) {l : Int} (h0 : 0 <= l) (h1 : l <= 1048576) : f k l 0 = some (sub1 l ((a.map s).sum)) := by
 have := loop (fun k (q : Int × Nat) => f k q.1 (q.2 : Int)) (fun q => 0 <= q.1 /\ q.1 <= 1048576 /\ q.2 <= a.length /\ sub1 q.1 (((a.drop q.2).map s).sum) = sub1 l ((a.map s).sum)) (fun q => a.length - q.2) (fun o => o = some (sub1 l ((a.map s).sum))) (fun k q hs => by
  obtain ⟨v, j⟩ := q
  obtain ⟨g0, g1, g2, g3⟩ := hs
  simp only at g0 g1 g2 g3 ⊢
  by_cases hj : j < a.length
  ·rw [hstep k v j hj, hg a[j] (List.getElem_mem hj) v g0 g1, Option.bind_some]
   rw [List.drop_eq_getElem_cons hj, List.map_cons, List.sum_cons] at g3
   by_cases hc : (s a[j] : Int) <= v
   ·right
    refine ⟨(v - s a[j], j + 1), ⟨by simp only; omega, by simp only; omega, hj, ?_⟩, by simp only; omega, ?_⟩
    ·rw [<- g3]; simp only [sub1]; split <;> split <;> omega
    ·rw [sub1_pos hc, decide_eq_false (by omega), cond_false]
   ·left
    rw [sub1_neg hc, decide_eq_true (by omega), cond_true]
    rw [<- g3, sub1_neg (by omega)]
  ·left
   have : j = a.length := by omega
   subst this
   rw [hend]
   rw [List.drop_length] at g3
   rw [<- g3]; simp [sub1, g0]) k (l, 0) (by simpa using hk) ⟨h0, h1, by simp, by simp⟩
 exact this
theorem not_neg {x : Int} (h : 0 <= x) : decide (x < 0) = false := decide_eq_false (by omega)
abbrev T_IntS := List Int
def in_IntS (a : T_IntS) : Prop := a.length <= 9223372036854775807 /\ ∀ y ∈ a, in_int y
def s_IntS (a : T_IntS) : Nat := a.length
def b_IntS (a : T_IntS) : Prop := a.length <= 1048576
theorem b_of_IntS {a : T_IntS} (h : s_IntS a <= 1048576) : b_IntS a := h
theorem fto_IntS {a : T_IntS} (h : b_IntS a) (hN : 1048576 < N) : laws_toIntS N a = some a := by
 have hl : a.length <= 1048576 := h
 unfold laws_toIntS laws_toIntS_b
 rw [makeOk_lt (by omega), grd_true]
 refine fill (b := a) (fun k out i => laws_toIntS_l0 N k a out i) (fun k out => by simp [laws_toIntS_l0, laws_toIntS_l0_b]) (fun k out j h1 h3 => ?_) (by omega) (by simp)
 have h2 : j < out.length := by omega
 have hj : (j : Int) < (a.length : Int) := by omega
 simp [laws_toIntS_l0, laws_toIntS_l0_b, hj, inb_lt h1, inb_lt h2, at_lt h1, w64_succ (j := j) (by omega)]
theorem feq_IntS {a b : T_IntS} (h : b_IntS a) (hN : 1048576 < N) : laws_eqIntS N a b = some (decide (a = b)) := by
 have hla : a.length <= 1048576 := h
 unfold laws_eqIntS laws_eqIntS_b
 by_cases hl : a.length = b.length
 ·have h0 : ((a.length : Int) != (b.length : Int)) = false := by simp [hl]
  rw [h0, cond_false, decide_eq_decide.2 (list_eq_iff' hl)]
  refine every (n := a.length) (fun j => decide (a[j]? = b[j]?)) (fun k i => laws_eqIntS_l0 N k a b i) (fun k => by simp [laws_eqIntS_l0, laws_eqIntS_l0_b]) (fun k j hj => ?_) (by omega)
  have h1 : (j : Int) < (a.length : Int) := by omega
  have h2 : j < b.length := by omega
  simp only [laws_eqIntS_l0, laws_eqIntS_l0_b, h1, decide_true, cond_true, inb_lt hj, inb_lt h2, grd_true, at_lt hj, at_lt h2, bneI, ite_dec, w64_succ (j := j) (by omega), List.getElem?_eq_getElem hj, List.getElem?_eq_getElem h2, Option.some.injEq]
 ·have h0 : ((a.length : Int) != (b.length : Int)) = true := by simp; omega
  rw [h0, cond_true]
  have : a ≠ b := fun h => hl (by rw [h])
  simp [this]
theorem fsz_IntS {a : T_IntS} {l : Int} (h : in_IntS a) (h0 : 0 <= l) (h1 : l <= 1048576) (hN : 1048576 < N) : laws_szIntS N a l = some (sub1 l (s_IntS a)) := by
 have := h.1
 unfold laws_szIntS s_IntS sub1
 rw [w64_id (by omega) (by omega)]
 by_cases h : (a.length : Int) <= l
 ·rw [if_pos h, decide_eq_false (by omega)]; rfl
 ·rw [if_neg h, decide_eq_true (by omega)]; rfl
abbrev T_Relation := ByteArray × Int × Int
def in_Relation (x : T_Relation) : Prop := in_str x.1 /\ in_int x.2.1 /\ in_int x.2.2
def s_Relation (x : T_Relation) : Nat := s_str x.1
def b_Relation (x : T_Relation) : Prop := b_str x.1
theorem b_of_Relation {x : T_Relation} (h : s_Relation x <= 1048576) : b_Relation x := b_of_str (by unfold s_Relation at h; omega)
theorem fto_Relation {x : T_Relation} (h : b_Relation x) (hN : 1048576 < N) : laws_toRelation N x = some x := by
 simp [laws_toRelation]
theorem feq_Relation {x y : T_Relation} (h : b_Relation x) (hN : 1048576 < N) : laws_eqRelation N x y = some (decide (x = y)) := by
 simp only [laws_eqRelation, bneI, bneB, beqB, seq_eq, Option.bind_some]
 obtain ⟨x0, x1, x2⟩ := x
 obtain ⟨y0, y1, y2⟩ := y
 simp only [Prod.mk.injEq]
 by_cases e0 : x0 = y0 <;>
 by_cases e1 : x1 = y1 <;>
 by_cases e2 : x2 = y2 <;> simp [e0, e1, e2]
theorem fsz_Relation {x : T_Relation} {l : Int} (h : in_Relation x) (h0 : 0 <= l) (h1 : l <= 1048576) (hN : 1048576 < N) : laws_szRelation N x l = some (sub1 l (s_Relation x)) := by
 have : x.1.size <= 9223372036854775807 := h.1
 unfold laws_szRelation s_Relation s_str sub1
 rw [w64_id (by omega) (by omega)]
 by_cases h : (x.1.size : Int) <= l
 ·rw [if_pos h, decide_eq_false (by omega)]; rfl
 ·rw [if_neg h, decide_eq_true (by omega)]; rfl
abbrev T_RelationS := List T_Relation
def in_RelationS (a : T_RelationS) : Prop := a.length <= 9223372036854775807 /\ ∀ y ∈ a, in_Relation y
def s_RelationS (a : T_RelationS) : Nat := sumL s_Relation a
def b_RelationS (a : T_RelationS) : Prop := a.length <= 1048576 /\ ∀ y ∈ a, b_Relation y
theorem b_of_RelationS {a : T_RelationS} (h : s_RelationS a <= 1048576) : b_RelationS a := ⟨(sumL_len h), fun y hy => b_of_Relation (Nat.le_trans (sumL_mem hy) h)⟩
theorem fto_RelationS {a : T_RelationS} (h : b_RelationS a) (hN : 1048576 < N) : laws_toRelationS N a = some a := by
 have hl : a.length <= 1048576 := h.1
 unfold laws_toRelationS laws_toRelationS_b
 rw [makeOk_lt (by omega), grd_true]
 refine fill (b := a) (fun k out i => laws_toRelationS_l0 N k a out i) (fun k out => by simp [laws_toRelationS_l0, laws_toRelationS_l0_b]) (fun k out j h1 h3 => ?_) (by omega) (by simp)
 have h2 : j < out.length := by omega
 have hj : (j : Int) < (a.length : Int) := by omega
 simp [laws_toRelationS_l0, laws_toRelationS_l0_b, hj, inb_lt h1, inb_lt h2, at_lt h1, fto_Relation (h.2 _ (List.getElem_mem h1)) hN, w64_succ (j := j) (by omega)]
theorem feq_RelationS {a b : T_RelationS} (h : b_RelationS a) (hN : 1048576 < N) : laws_eqRelationS N a b = some (decide (a = b)) := by
 have hla : a.length <= 1048576 := h.1
 unfold laws_eqRelationS laws_eqRelationS_b
 by_cases hl : a.length = b.length
 ·have h0 : ((a.length : Int) != (b.length : Int)) = false := by simp [hl]
  rw [h0, cond_false, decide_eq_decide.2 (list_eq_iff' hl)]
  refine every (n := a.length) (fun j => decide (a[j]? = b[j]?)) (fun k i => laws_eqRelationS_l0 N k a b i) (fun k => by simp [laws_eqRelationS_l0, laws_eqRelationS_l0_b]) (fun k j hj => ?_) (by omega)
  have h1 : (j : Int) < (a.length : Int) := by omega
  have h2 : j < b.length := by omega
  simp only [laws_eqRelationS_l0, laws_eqRelationS_l0_b, h1, decide_true, cond_true, inb_lt hj, inb_lt h2, grd_true, at_lt hj, at_lt h2, feq_Relation (h.2 _ (List.getElem_mem hj)) hN, Option.bind_some, ite_dec, w64_succ (j := j) (by omega), List.getElem?_eq_getElem hj, List.getElem?_eq_getElem h2, Option.some.injEq]
 ·have h0 : ((a.length : Int) != (b.length : Int)) = true := by simp; omega
  rw [h0, cond_true]
  have : a ≠ b := fun h => hl (by rw [h])
  simp [this]
theorem fsz_RelationS {a : T_RelationS} {l : Int} (h : in_RelationS a) (h0 : 0 <= l) (h1 : l <= 1048576) (hN : 1048576 < N) : laws_szRelationS N a l = some (sub1 l (s_RelationS a)) := by
 have hlen := h.1
 unfold laws_szRelationS laws_szRelationS_b
 rw [w64_id (by omega) (by omega)]
 by_cases hc : (a.length : Int) <= l
 ·rw [decide_eq_false (by omega), cond_false]
  rw [szL (a := a) (s := s_Relation) (g := fun x l => laws_szRelation N x l) (f := fun k l i => laws_szRelationS_l0 N k a l i) (fun x hx l h0 h1 => fsz_Relation (h.2 x hx) h0 h1 hN) (fun k l => by simp [laws_szRelationS_l0, laws_szRelationS_l0_b]) (fun k l j hj => by
    have h2 : (j : Int) < (a.length : Int) := by omega
    simp only [laws_szRelationS_l0, laws_szRelationS_l0_b, h2, decide_true, cond_true, inb_lt hj, grd_true, at_lt hj, w64_succ (j := j) (by omega)]) (by omega) (by omega) (by omega)]
  unfold s_RelationS sumL sub1
  congr 1
  split <;> split <;> omega
 ·rw [decide_eq_true (by omega), cond_true]
  unfold s_RelationS sumL sub1
  rw [if_neg (by omega)]
abbrev T_Fact := Int × List Int
def in_Fact (x : T_Fact) : Prop := in_int x.1 /\ in_IntS x.2
def s_Fact (x : T_Fact) : Nat := s_IntS x.2
def b_Fact (x : T_Fact) : Prop := b_IntS x.2
theorem b_of_Fact {x : T_Fact} (h : s_Fact x <= 1048576) : b_Fact x := b_of_IntS (by unfold s_Fact at h; omega)
theorem fto_Fact {x : T_Fact} (h : b_Fact x) (hN : 1048576 < N) : laws_toFact N x = some x := by
 simp [laws_toFact, fto_IntS h hN]
theorem feq_Fact {x y : T_Fact} (h : b_Fact x) (hN : 1048576 < N) : laws_eqFact N x y = some (decide (x = y)) := by
 simp only [laws_eqFact, bneI, bneB, beqB, seq_eq, feq_IntS h hN, Option.bind_some]
 obtain ⟨x0, x1⟩ := x
 obtain ⟨y0, y1⟩ := y
 simp only [Prod.mk.injEq]
 by_cases e0 : x0 = y0 <;>
 by_cases e1 : x1 = y1 <;> simp [e0, e1]
theorem fsz_Fact {x : T_Fact} {l : Int} (h : in_Fact x) (h0 : 0 <= l) (h1 : l <= 1048576) (hN : 1048576 < N) : laws_szFact N x l = some (sub1 l (s_Fact x)) := by
 unfold laws_szFact s_Fact
 rw [fsz_IntS (l := l) h.2 (by omega) (by omega) hN, Option.bind_some]
 unfold sub1
 split
 ·rw [decide_eq_false (by omega)]; rfl
 ·rfl
abbrev T_FactS := List T_Fact
def in_FactS (a : T_FactS) : Prop := a.length <= 9223372036854775807 /\ ∀ y ∈ a, in_Fact y
def s_FactS (a : T_FactS) : Nat := sumL s_Fact a
def b_FactS (a : T_FactS) : Prop := a.length <= 1048576 /\ ∀ y ∈ a, b_Fact y
theorem b_of_FactS {a : T_FactS} (h : s_FactS a <= 1048576) : b_FactS a := ⟨(sumL_len h), fun y hy => b_of_Fact (Nat.le_trans (sumL_mem hy) h)⟩
theorem fto_FactS {a : T_FactS} (h : b_FactS a) (hN : 1048576 < N) : laws_toFactS N a = some a := by
 have hl : a.length <= 1048576 := h.1
 unfold laws_toFactS laws_toFactS_b
 rw [makeOk_lt (by omega), grd_true]
 refine fill (b := a) (fun k out i => laws_toFactS_l0 N k a out i) (fun k out => by simp [laws_toFactS_l0, laws_toFactS_l0_b]) (fun k out j h1 h3 => ?_) (by omega) (by simp)
 have h2 : j < out.length := by omega
 have hj : (j : Int) < (a.length : Int) := by omega
 simp [laws_toFactS_l0, laws_toFactS_l0_b, hj, inb_lt h1, inb_lt h2, at_lt h1, fto_Fact (h.2 _ (List.getElem_mem h1)) hN, w64_succ (j := j) (by omega)]
theorem feq_FactS {a b : T_FactS} (h : b_FactS a) (hN : 1048576 < N) : laws_eqFactS N a b = some (decide (a = b)) := by
 have hla : a.length <= 1048576 := h.1
 unfold laws_eqFactS laws_eqFactS_b
 by_cases hl : a.length = b.length
 ·have h0 : ((a.length : Int) != (b.length : Int)) = false := by simp [hl]
  rw [h0, cond_false, decide_eq_decide.2 (list_eq_iff' hl)]
  refine every (n := a.length) (fun j => decide (a[j]? = b[j]?)) (fun k i => laws_eqFactS_l0 N k a b i) (fun k => by simp [laws_eqFactS_l0, laws_eqFactS_l0_b]) (fun k j hj => ?_) (by omega)
  have h1 : (j : Int) < (a.length : Int) := by omega
  have h2 : j < b.length := by omega
  simp only [laws_eqFactS_l0, laws_eqFactS_l0_b, h1, decide_true, cond_true, inb_lt hj, inb_lt h2, grd_true, at_lt hj, at_lt h2, feq_Fact (h.2 _ (List.getElem_mem hj)) hN, Option.bind_some, ite_dec, w64_succ (j := j) (by omega), List.getElem?_eq_getElem hj, List.getElem?_eq_getElem h2, Option.some.injEq]
 ·have h0 : ((a.length : Int) != (b.length : Int)) = true := by simp; omega
  rw [h0, cond_true]
  have : a ≠ b := fun h => hl (by rw [h])
  simp [this]
theorem fsz_FactS {a : T_FactS} {l : Int} (h : in_FactS a) (h0 : 0 <= l) (h1 : l <= 1048576) (hN : 1048576 < N) : laws_szFactS N a l = some (sub1 l (s_FactS a)) := by
 have hlen := h.1
 unfold laws_szFactS laws_szFactS_b
 rw [w64_id (by omega) (by omega)]
 by_cases hc : (a.length : Int) <= l
 ·rw [decide_eq_false (by omega), cond_false]
  rw [szL (a := a) (s := s_Fact) (g := fun x l => laws_szFact N x l) (f := fun k l i => laws_szFactS_l0 N k a l i) (fun x hx l h0 h1 => fsz_Fact (h.2 x hx) h0 h1 hN) (fun k l => by simp [laws_szFactS_l0, laws_szFactS_l0_b]) (fun k l j hj => by
    have h2 : (j : Int) < (a.length : Int) := by omega
    simp only [laws_szFactS_l0, laws_szFactS_l0_b, h2, decide_true, cond_true, inb_lt hj, grd_true, at_lt hj, w64_succ (j := j) (by omega)]) (by omega) (by omega) (by omega)]
  unfold s_FactS sumL sub1
  congr 1
  split <;> split <;> omega
 ·rw [decide_eq_true (by omega), cond_true]
  unfold s_FactS sumL sub1
  rw [if_neg (by omega)]
abbrev T_Database := (List (ByteArray × Int × Int)) × List (Int × List Int)
def in_Database (x : T_Database) : Prop := in_RelationS x.1 /\ in_FactS x.2
def s_Database (x : T_Database) : Nat := s_RelationS x.1 + s_FactS x.2
def b_Database (x : T_Database) : Prop := b_RelationS x.1 /\ b_FactS x.2
theorem b_of_Database {x : T_Database} (h : s_Database x <= 1048576) : b_Database x := ⟨b_of_RelationS (by unfold s_Database at h; omega), b_of_FactS (by unfold s_Database at h; omega)⟩
theorem fto_Database {x : T_Database} (h : b_Database x) (hN : 1048576 < N) : laws_toDatabase N x = some x := by
 simp [laws_toDatabase, fto_RelationS h.1 hN, fto_FactS h.2 hN]
theorem feq_Database {x y : T_Database} (h : b_Database x) (hN : 1048576 < N) : laws_eqDatabase N x y = some (decide (x = y)) := by
 simp only [laws_eqDatabase, bneI, bneB, beqB, seq_eq, feq_RelationS h.1 hN, feq_FactS h.2 hN, Option.bind_some]
 obtain ⟨x0, x1⟩ := x
 obtain ⟨y0, y1⟩ := y
 simp only [Prod.mk.injEq]
 by_cases e0 : x0 = y0 <;>
 by_cases e1 : x1 = y1 <;> simp [e0, e1]
theorem fsz_Database {x : T_Database} {l : Int} (h : in_Database x) (h0 : 0 <= l) (h1 : l <= 1048576) (hN : 1048576 < N) : laws_szDatabase N x l = some (sub1 l (s_Database x)) := by
 unfold laws_szDatabase s_Database
 rw [fsz_RelationS (l := l) h.1 (by omega) (by omega) hN, Option.bind_some]
 by_cases c0 : (s_RelationS x.1 : Int) <= l
 case neg => rw [sub1_neg c0]; rw [sub1_neg (by omega)]; rfl
 rw [sub1_pos c0, decide_eq_false (show ¬ l - (s_RelationS x.1 : Int) < 0 by omega), cond_false]
 rw [fsz_FactS (l := (l - (s_RelationS x.1 : Int))) h.2 (by omega) (by omega) hN, Option.bind_some]
 by_cases c1 : (s_FactS x.2 : Int) <= (l - (s_RelationS x.1 : Int))
 case neg => rw [sub1_neg c1]; rw [sub1_neg (by omega)]; rfl
 rw [sub1_pos c1, decide_eq_false (show ¬ (l - (s_RelationS x.1 : Int)) - (s_FactS x.2 : Int) < 0 by omega), cond_false]
 rw [sub1_pos (by omega)]; congr 1; omega
abbrev T_DenialConstraint := Int × Int × Int × Int × Int × Int × Int
noncomputable instance dec_DenialConstraint : DecidableEq T_DenialConstraint := fun _ _ => Classical.propDecidable _
def in_DenialConstraint (x : T_DenialConstraint) : Prop := in_int x.1 /\ in_int x.2.1 /\ in_int x.2.2.1 /\ in_int x.2.2.2.1 /\ in_int x.2.2.2.2.1 /\ in_int x.2.2.2.2.2.1 /\ in_int x.2.2.2.2.2.2
theorem fto_DenialConstraint (x : T_DenialConstraint) (hN : 1048576 < N) : laws_toDenialConstraint N x = some x := rfl
theorem feq_DenialConstraint {x y : T_DenialConstraint} (hN : 1048576 < N) : laws_eqDenialConstraint N x y = some (decide (x = y)) := by
 simp only [laws_eqDenialConstraint, bneI, bneB, beqB, seq_eq, Option.bind_some]
 obtain ⟨x0, x1, x2, x3, x4, x5, x6⟩ := x
 obtain ⟨y0, y1, y2, y3, y4, y5, y6⟩ := y
 simp only [Prod.mk.injEq]
 by_cases e0 : x0 = y0 <;>
 by_cases e1 : x1 = y1 <;>
 by_cases e2 : x2 = y2 <;>
 by_cases e3 : x3 = y3 <;>
 by_cases e4 : x4 = y4 <;>
 by_cases e5 : x5 = y5 <;>
 by_cases e6 : x6 = y6 <;> simp [e0, e1, e2, e3, e4, e5, e6]
abbrev T_DenialConstraintS := List T_DenialConstraint
def in_DenialConstraintS (a : T_DenialConstraintS) : Prop := a.length <= 9223372036854775807 /\ ∀ y ∈ a, in_DenialConstraint y
def s_DenialConstraintS (a : T_DenialConstraintS) : Nat := a.length
def b_DenialConstraintS (a : T_DenialConstraintS) : Prop := a.length <= 1048576
theorem b_of_DenialConstraintS {a : T_DenialConstraintS} (h : s_DenialConstraintS a <= 1048576) : b_DenialConstraintS a := h
theorem fto_DenialConstraintS {a : T_DenialConstraintS} (h : b_DenialConstraintS a) (hN : 1048576 < N) : laws_toDenialConstraintS N a = some a := by
 have hl : a.length <= 1048576 := h
 unfold laws_toDenialConstraintS laws_toDenialConstraintS_b
 rw [makeOk_lt (by omega), grd_true]
 refine fill (b := a) (fun k out i => laws_toDenialConstraintS_l0 N k a out i) (fun k out => by simp [laws_toDenialConstraintS_l0, laws_toDenialConstraintS_l0_b]) (fun k out j h1 h3 => ?_) (by omega) (by simp)
 have h2 : j < out.length := by omega
 have hj : (j : Int) < (a.length : Int) := by omega
 simp [laws_toDenialConstraintS_l0, laws_toDenialConstraintS_l0_b, hj, inb_lt h1, inb_lt h2, at_lt h1, fto_DenialConstraint _ hN, w64_succ (j := j) (by omega)]
theorem feq_DenialConstraintS {a b : T_DenialConstraintS} (h : b_DenialConstraintS a) (hN : 1048576 < N) : laws_eqDenialConstraintS N a b = some (decide (a = b)) := by
 have hla : a.length <= 1048576 := h
 unfold laws_eqDenialConstraintS laws_eqDenialConstraintS_b
 by_cases hl : a.length = b.length
 ·have h0 : ((a.length : Int) != (b.length : Int)) = false := by simp [hl]
  rw [h0, cond_false, decide_eq_decide.2 (list_eq_iff' hl)]
  refine every (n := a.length) (fun j => decide (a[j]? = b[j]?)) (fun k i => laws_eqDenialConstraintS_l0 N k a b i) (fun k => by simp [laws_eqDenialConstraintS_l0, laws_eqDenialConstraintS_l0_b]) (fun k j hj => ?_) (by omega)
  have h1 : (j : Int) < (a.length : Int) := by omega
  have h2 : j < b.length := by omega
  simp only [laws_eqDenialConstraintS_l0, laws_eqDenialConstraintS_l0_b, h1, decide_true, cond_true, inb_lt hj, inb_lt h2, grd_true, at_lt hj, at_lt h2, feq_DenialConstraint  hN, Option.bind_some, ite_dec, w64_succ (j := j) (by omega), List.getElem?_eq_getElem hj, List.getElem?_eq_getElem h2, Option.some.injEq]
 ·have h0 : ((a.length : Int) != (b.length : Int)) = true := by simp; omega
  rw [h0, cond_true]
  have : a ≠ b := fun h => hl (by rw [h])
  simp [this]
theorem fsz_DenialConstraintS {a : T_DenialConstraintS} {l : Int} (h : in_DenialConstraintS a) (h0 : 0 <= l) (h1 : l <= 1048576) (hN : 1048576 < N) : laws_szDenialConstraintS N a l = some (sub1 l (s_DenialConstraintS a)) := by
 have := h.1
 unfold laws_szDenialConstraintS s_DenialConstraintS sub1
 rw [w64_id (by omega) (by omega)]
 by_cases h : (a.length : Int) <= l
 ·rw [if_pos h, decide_eq_false (by omega)]; rfl
 ·rw [if_neg h, decide_eq_true (by omega)]; rfl
abbrev T_Atom := Int × List Int
def in_Atom (x : T_Atom) : Prop := in_int x.1 /\ in_IntS x.2
def s_Atom (x : T_Atom) : Nat := s_IntS x.2
def b_Atom (x : T_Atom) : Prop := b_IntS x.2
theorem b_of_Atom {x : T_Atom} (h : s_Atom x <= 1048576) : b_Atom x := b_of_IntS (by unfold s_Atom at h; omega)
theorem fto_Atom {x : T_Atom} (h : b_Atom x) (hN : 1048576 < N) : laws_toAtom N x = some x := by
 simp [laws_toAtom, fto_IntS h hN]
theorem feq_Atom {x y : T_Atom} (h : b_Atom x) (hN : 1048576 < N) : laws_eqAtom N x y = some (decide (x = y)) := by
 simp only [laws_eqAtom, bneI, bneB, beqB, seq_eq, feq_IntS h hN, Option.bind_some]
 obtain ⟨x0, x1⟩ := x
 obtain ⟨y0, y1⟩ := y
 simp only [Prod.mk.injEq]
 by_cases e0 : x0 = y0 <;>
 by_cases e1 : x1 = y1 <;> simp [e0, e1]
theorem fsz_Atom {x : T_Atom} {l : Int} (h : in_Atom x) (h0 : 0 <= l) (h1 : l <= 1048576) (hN : 1048576 < N) : laws_szAtom N x l = some (sub1 l (s_Atom x)) := by
 unfold laws_szAtom s_Atom
 rw [fsz_IntS (l := l) h.2 (by omega) (by omega) hN, Option.bind_some]
 unfold sub1
 split
 ·rw [decide_eq_false (by omega)]; rfl
 ·rfl
abbrev T_AtomS := List T_Atom
def in_AtomS (a : T_AtomS) : Prop := a.length <= 9223372036854775807 /\ ∀ y ∈ a, in_Atom y
def s_AtomS (a : T_AtomS) : Nat := sumL s_Atom a
def b_AtomS (a : T_AtomS) : Prop := a.length <= 1048576 /\ ∀ y ∈ a, b_Atom y
theorem b_of_AtomS {a : T_AtomS} (h : s_AtomS a <= 1048576) : b_AtomS a := ⟨(sumL_len h), fun y hy => b_of_Atom (Nat.le_trans (sumL_mem hy) h)⟩
theorem fto_AtomS {a : T_AtomS} (h : b_AtomS a) (hN : 1048576 < N) : laws_toAtomS N a = some a := by
 have hl : a.length <= 1048576 := h.1
 unfold laws_toAtomS laws_toAtomS_b
 rw [makeOk_lt (by omega), grd_true]
 refine fill (b := a) (fun k out i => laws_toAtomS_l0 N k a out i) (fun k out => by simp [laws_toAtomS_l0, laws_toAtomS_l0_b]) (fun k out j h1 h3 => ?_) (by omega) (by simp)
 have h2 : j < out.length := by omega
 have hj : (j : Int) < (a.length : Int) := by omega
 simp [laws_toAtomS_l0, laws_toAtomS_l0_b, hj, inb_lt h1, inb_lt h2, at_lt h1, fto_Atom (h.2 _ (List.getElem_mem h1)) hN, w64_succ (j := j) (by omega)]
theorem feq_AtomS {a b : T_AtomS} (h : b_AtomS a) (hN : 1048576 < N) : laws_eqAtomS N a b = some (decide (a = b)) := by
 have hla : a.length <= 1048576 := h.1
 unfold laws_eqAtomS laws_eqAtomS_b
 by_cases hl : a.length = b.length
 ·have h0 : ((a.length : Int) != (b.length : Int)) = false := by simp [hl]
  rw [h0, cond_false, decide_eq_decide.2 (list_eq_iff' hl)]
  refine every (n := a.length) (fun j => decide (a[j]? = b[j]?)) (fun k i => laws_eqAtomS_l0 N k a b i) (fun k => by simp [laws_eqAtomS_l0, laws_eqAtomS_l0_b]) (fun k j hj => ?_) (by omega)
  have h1 : (j : Int) < (a.length : Int) := by omega
  have h2 : j < b.length := by omega
  simp only [laws_eqAtomS_l0, laws_eqAtomS_l0_b, h1, decide_true, cond_true, inb_lt hj, inb_lt h2, grd_true, at_lt hj, at_lt h2, feq_Atom (h.2 _ (List.getElem_mem hj)) hN, Option.bind_some, ite_dec, w64_succ (j := j) (by omega), List.getElem?_eq_getElem hj, List.getElem?_eq_getElem h2, Option.some.injEq]
 ·have h0 : ((a.length : Int) != (b.length : Int)) = true := by simp; omega
  rw [h0, cond_true]
  have : a ≠ b := fun h => hl (by rw [h])
  simp [this]
theorem fsz_AtomS {a : T_AtomS} {l : Int} (h : in_AtomS a) (h0 : 0 <= l) (h1 : l <= 1048576) (hN : 1048576 < N) : laws_szAtomS N a l = some (sub1 l (s_AtomS a)) := by
 have hlen := h.1
 unfold laws_szAtomS laws_szAtomS_b
 rw [w64_id (by omega) (by omega)]
 by_cases hc : (a.length : Int) <= l
 ·rw [decide_eq_false (by omega), cond_false]
  rw [szL (a := a) (s := s_Atom) (g := fun x l => laws_szAtom N x l) (f := fun k l i => laws_szAtomS_l0 N k a l i) (fun x hx l h0 h1 => fsz_Atom (h.2 x hx) h0 h1 hN) (fun k l => by simp [laws_szAtomS_l0, laws_szAtomS_l0_b]) (fun k l j hj => by
    have h2 : (j : Int) < (a.length : Int) := by omega
    simp only [laws_szAtomS_l0, laws_szAtomS_l0_b, h2, decide_true, cond_true, inb_lt hj, grd_true, at_lt hj, w64_succ (j := j) (by omega)]) (by omega) (by omega) (by omega)]
  unfold s_AtomS sumL sub1
  congr 1
  split <;> split <;> omega
 ·rw [decide_eq_true (by omega), cond_true]
  unfold s_AtomS sumL sub1
  rw [if_neg (by omega)]
abbrev T_Query := Int × (List (Int × List Int)) × List Int
def in_Query (x : T_Query) : Prop := in_int x.1 /\ in_AtomS x.2.1 /\ in_IntS x.2.2
def s_Query (x : T_Query) : Nat := s_AtomS x.2.1 + s_IntS x.2.2
def b_Query (x : T_Query) : Prop := b_AtomS x.2.1 /\ b_IntS x.2.2
theorem b_of_Query {x : T_Query} (h : s_Query x <= 1048576) : b_Query x := ⟨b_of_AtomS (by unfold s_Query at h; omega), b_of_IntS (by unfold s_Query at h; omega)⟩
theorem fto_Query {x : T_Query} (h : b_Query x) (hN : 1048576 < N) : laws_toQuery N x = some x := by
 simp [laws_toQuery, fto_AtomS h.1 hN, fto_IntS h.2 hN]
theorem feq_Query {x y : T_Query} (h : b_Query x) (hN : 1048576 < N) : laws_eqQuery N x y = some (decide (x = y)) := by
 simp only [laws_eqQuery, bneI, bneB, beqB, seq_eq, feq_AtomS h.1 hN, feq_IntS h.2 hN, Option.bind_some]
 obtain ⟨x0, x1, x2⟩ := x
 obtain ⟨y0, y1, y2⟩ := y
 simp only [Prod.mk.injEq]
 by_cases e0 : x0 = y0 <;>
 by_cases e1 : x1 = y1 <;>
 by_cases e2 : x2 = y2 <;> simp [e0, e1, e2]
theorem fsz_Query {x : T_Query} {l : Int} (h : in_Query x) (h0 : 0 <= l) (h1 : l <= 1048576) (hN : 1048576 < N) : laws_szQuery N x l = some (sub1 l (s_Query x)) := by
 unfold laws_szQuery s_Query
 rw [fsz_AtomS (l := l) h.2.1 (by omega) (by omega) hN, Option.bind_some]
 by_cases c0 : (s_AtomS x.2.1 : Int) <= l
 case neg => rw [sub1_neg c0]; rw [sub1_neg (by omega)]; rfl
 rw [sub1_pos c0, decide_eq_false (show ¬ l - (s_AtomS x.2.1 : Int) < 0 by omega), cond_false]
 rw [fsz_IntS (l := (l - (s_AtomS x.2.1 : Int))) h.2.2 (by omega) (by omega) hN, Option.bind_some]
 by_cases c1 : (s_IntS x.2.2 : Int) <= (l - (s_AtomS x.2.1 : Int))
 case neg => rw [sub1_neg c1]; rw [sub1_neg (by omega)]; rfl
 rw [sub1_pos c1, decide_eq_false (show ¬ (l - (s_AtomS x.2.1 : Int)) - (s_IntS x.2.2 : Int) < 0 by omega), cond_false]
 rw [sub1_pos (by omega)]; congr 1; omega
theorem appOk_of {α : Type} {s x : List α} {b : Nat} (h : (s.length + x.length) * b <= 140737488355328) : appOk s x b = true := decide_eq_true h
theorem flatMap_len {α β : Type} {piece : α -> List β} {n : Nat} : ∀ {a : List α}, (∀ x ∈ a, (piece x).length <= n) -> (a.flatMap piece).length <= a.length * n
 | [], _ => by simp
 | x :: a, h => by
  have h1 := h x (by simp)
  have h2 := flatMap_len (a := a) fun y hy => h y (by simp [hy])
  rw [List.flatMap_cons, List.length_append, List.length_cons, Nat.add_mul]; omega
abbrev Rel := ByteArray × Int × Int
abbrev Fact := Int × List Int
abbrev Db := List Rel × List Fact
structure SmallDb (d : Db) : Prop where
 rels : d.1.length <= 1048576
 facts : d.2.length <= 1048576
 vals : ∀ f ∈ d.2, f.2.length <= 1048576
theorem list_eq_iff {α : Type} [DecidableEq α] {a b : List α} (h : a.length = b.length) : (a = b) ↔ ∀ j, j < a.length -> (decide (a[j]? = b[j]?)) = true := by
 constructor
 ·rintro rfl j _; simp
 ·intro h2
  apply List.ext_getElem? 
  intro j
  by_cases hj : j < a.length
  ·simpa using h2 j hj
  ·rw [List.getElem?_eq_none (by omega), List.getElem?_eq_none (by omega)]
theorem l1In (N : Nat) (x a b : Int) : spec_l1In N x a b = some (decide (a <= x /\ x <= b)) := by
 unfold spec_l1In
 by_cases h : a <= x <;> simp [h]
theorem within (N : Nat) (x a b : Int) : impl_within N x a b = some (decide (a <= x /\ x <= b)) := by
 unfold impl_within
 by_cases h : a <= x <;> simp [h]
def validRel (r : Rel) : Bool := (spec_IsValidRelation 0 r).getD false
theorem specRel (N : Nat) (r : Rel) : spec_IsValidRelation N r = some (validRel r) := by
 have key : ∃ b, spec_IsValidRelation 0 r = some b := by
  unfold spec_IsValidRelation
  by_cases h : r.1.size = 1
  ·have hb : ∃ b, byteAt r.1 0 = some b := by
    unfold byteAt
    have : (0 : Int).toNat < r.1.size := by omega
    exact ⟨r.1[(0 : Int).toNat], by rw [if_pos (by omega), getElem?_pos]⟩
   obtain ⟨b, hb⟩ := hb
   rw [hb]
   simp only [Option.bind_some, l1In]
   cases ((r.1.size : Int) == 1) with
   | false => exact ⟨_, rfl⟩
   | true =>
    cases decide ((b.toNat : Int) >= 97) with
    | false => exact ⟨_, rfl⟩
    | true =>
     cases decide ((b.toNat : Int) <= 122) with
     | false => exact ⟨_, rfl⟩
     | true =>
      cases decide (1 <= r.2.1 /\ r.2.1 <= 3) with
      | false => exact ⟨_, rfl⟩
      | true => exact ⟨_, rfl⟩
  ·have h0 : ((r.1.size : Int) == 1) = false := by rw [beqI]; simp; omega
   rw [h0]; exact ⟨false, rfl⟩
 obtain ⟨b, hb⟩ := key
 have e : spec_IsValidRelation N r = spec_IsValidRelation 0 r := by
  unfold spec_IsValidRelation; simp only [l1In]
 rw [e, validRel, hb]; rfl
theorem implRel (N : Nat) (r : Rel) : impl_IsValidRelation N r = some (validRel r) := by
 rw [<- specRel N r]
 unfold impl_IsValidRelation spec_IsValidRelation
 simp only [l1In, within]
def validRels (l : List Rel) : Bool := decide ((∀ j, j < l.length -> (validRel (l.getD j (⟨#[]⟩, 0, 0)) && (decide (j = 0) || slt (l.getD (j - 1) (⟨#[]⟩, 0, 0)).1 (l.getD j (⟨#[]⟩, 0, 0)).1)) = true) /\ l.length <= 4)
theorem getD_lt {α : Type} {d : α} {j : Nat} {xs : List α} (h : j < xs.length) : xs.getD j d = xs[j] := by simp [h]
theorem specRels {l : List Rel} (hl : l.length <= 1048576) (hN : 1048576 < N) : spec_AreValidRelations N l = some (validRels l) := by
 unfold spec_AreValidRelations spec_AreValidRelations_b
 rw [everyE (n := l.length) (fun j => validRel (l.getD j (⟨#[]⟩, 0, 0)) && (decide (j = 0) || slt (l.getD (j - 1) (⟨#[]⟩, 0, 0)).1 (l.getD j (⟨#[]⟩, 0, 0)).1)) (some false) (some (decide (l.length <= 4))) (fun k i => spec_AreValidRelations_l0 N k l i)
  (fun k => by simp [spec_AreValidRelations_l0, spec_AreValidRelations_l0_b]; omega) (fun k j hj => ?_) (by omega)]
 ·unfold validRels
  by_cases h : ∀ j, j < l.length -> (validRel (l.getD j (⟨#[]⟩, 0, 0)) && (decide (j = 0) || slt (l.getD (j - 1) (⟨#[]⟩, 0, 0)).1 (l.getD j (⟨#[]⟩, 0, 0)).1)) = true
  ·rw [if_pos h]; congr 1; exact decide_eq_decide.2 ⟨fun h2 => ⟨h, h2⟩, fun h2 => h2.2⟩
  ·rw [if_neg h]; congr 1; symm; exact decide_eq_false fun h2 => h h2.1
 ·have h1 : (j : Int) < (l.length : Int) := by omega
  simp only [spec_AreValidRelations_l0, spec_AreValidRelations_l0_b, h1, decide_true, cond_true, inb_lt hj, grd_true, at_lt hj, specRel, Option.bind_some, getD_lt hj, w64_succ (j := j) (by omega)]
  cases validRel l[j] with
  | false => rfl
  | true =>
   simp only [Bool.not_true, cond_false, Bool.true_and]
   by_cases h0 : j = 0
   ·subst h0; simp
   ·have h3 : (j : Int) > 0 := by omega
    have h4 : j - 1 < l.length := by omega
    simp only [h3, decide_true, cond_true, w64_pred (show 0 < j by omega) (by omega), inb_lt h4, grd_true, at_lt h4, h0, decide_false, Bool.false_or, getD_lt h4]
    cases slt l[j - 1].1 l[j].1 <;> rfl
theorem implRels {l : List Rel} (hl : l.length <= 1048576) (hN : 1048576 < N) : impl_AreValidRelations N l = some (validRels l) := by
 rw [<- specRels hl hN]
 unfold impl_AreValidRelations impl_AreValidRelations_b spec_AreValidRelations spec_AreValidRelations_b
 rw [everyE (n := l.length) (fun j => validRel (l.getD j (⟨#[]⟩, 0, 0)) && (decide (j = 0) || slt (l.getD (j - 1) (⟨#[]⟩, 0, 0)).1 (l.getD j (⟨#[]⟩, 0, 0)).1)) (some false) (some (decide (l.length <= 4))) (fun k i => spec_AreValidRelations_l0 N k l i)
  (fun k => by simp [spec_AreValidRelations_l0, spec_AreValidRelations_l0_b]; omega) (fun k j hj => ?_) (by omega),
  everyE (n := l.length) (fun j => validRel (l.getD j (⟨#[]⟩, 0, 0)) && (decide (j = 0) || slt (l.getD (j - 1) (⟨#[]⟩, 0, 0)).1 (l.getD j (⟨#[]⟩, 0, 0)).1)) (some false) (some (decide (l.length <= 4))) (fun k i => impl_AreValidRelations_l0 N k l l (l.length : Int) i)
  (fun k => by simp [impl_AreValidRelations_l0, impl_AreValidRelations_l0_b]; omega) (fun k j hj => ?_) (by omega)]
 ·have h1 : (j : Int) < (l.length : Int) := by omega
  simp only [impl_AreValidRelations_l0, impl_AreValidRelations_l0_b, h1, decide_true, cond_true, inb_lt hj, grd_true, at_lt hj, implRel, Option.bind_some, getD_lt hj, w64_succ (j := j) (by omega)]
  cases validRel l[j] with
  | false => rfl
  | true =>
   simp only [Bool.not_true, cond_false, Bool.true_and]
   by_cases h0 : j = 0
   ·subst h0; simp
   ·have h3 : (j : Int) > 0 := by omega
    have h4 : j - 1 < l.length := by omega
    simp only [h3, decide_true, cond_true, w64_pred (show 0 < j by omega) (by omega), inb_lt h4, grd_true, at_lt h4, h0, decide_false, Bool.false_or, getD_lt h4]
    cases slt l[j - 1].1 l[j].1 <;> rfl
 ·have h1 : (j : Int) < (l.length : Int) := by omega
  simp only [spec_AreValidRelations_l0, spec_AreValidRelations_l0_b, h1, decide_true, cond_true, inb_lt hj, grd_true, at_lt hj, specRel, Option.bind_some, getD_lt hj, w64_succ (j := j) (by omega)]
  cases validRel l[j] with
  | false => rfl
  | true =>
   simp only [Bool.not_true, cond_false, Bool.true_and]
   by_cases h0 : j = 0
   ·subst h0; simp
   ·have h3 : (j : Int) > 0 := by omega
    have h4 : j - 1 < l.length := by omega
    simp only [h3, decide_true, cond_true, w64_pred (show 0 < j by omega) (by omega), inb_lt h4, grd_true, at_lt h4, h0, decide_false, Bool.false_or, getD_lt h4]
    cases slt l[j - 1].1 l[j].1 <;> rfl
def validVals (xs : List Int) : Bool := xs.all fun x => decide (0 <= x /\ x <= 9)
theorem all_iff {α : Type} {d : α} {xs : List α} {p : α -> Bool} : (∀ j, j < xs.length -> p (xs.getD j d) = true) ↔ xs.all p = true := by
 rw [List.all_eq_true]
 constructor
 ·intro h x hx
  obtain ⟨i, hi, rfl⟩ := List.mem_iff_getElem.1 hx
  have := h i hi
  rwa [getD_lt hi] at this
 ·intro h j hj
  rw [getD_lt hj]
  exact h _ (List.getElem_mem hj)
def fact1 (l : List Rel) (f : Fact) : Bool := decide (0 <= f.1 /\ f.1 <= (l.length : Int) - 1) && (decide ((f.2.length : Int) = (l.getD f.1.toNat (⟨#[]⟩, 0, 0)).2.1) && validVals f.2)
theorem specFact {l : List Rel} {f : Fact} (hl : l.length <= 1048576) (hf : f.2.length <= 1048576) (hN : 1048576 < N) : spec_IsValidFact N l f = some (validRels l && fact1 l f) := by
 obtain ⟨r, v⟩ := f
 unfold spec_IsValidFact spec_IsValidFact_b
 rw [specRels hl hN, Option.bind_some]
 cases validRels l with
 | false => rfl
 | true =>
  simp only [Bool.not_true, cond_false, l1In, Option.bind_some, Bool.true_and, fact1]
  rw [w64_id (by omega) (by omega)]
  by_cases h : 0 <= r /\ r <= (l.length : Int) - 1
  ·have h2 : r.toNat < l.length := by omega
   simp only [h, and_self, decide_true, Bool.not_true, cond_false, inb_int h.1 (show r < l.length by omega), grd_true, at_int h.1 (show r < l.length by omega), bneI, getD_lt h2, Bool.true_and]
   by_cases h3 : (v.length : Int) = l[r.toNat].2.1
   ·simp only [h3, decide_true, Bool.not_true, cond_false, Bool.true_and]
    rw [everyE (n := v.length) (fun j => decide (0 <= v.getD j 0 /\ v.getD j 0 <= 9)) (some false) (some true) (fun k i => spec_IsValidFact_l0 N k r v i) (fun k => by simp [spec_IsValidFact_l0, spec_IsValidFact_l0_b]) (fun k j hj => ?_) (by simp only at hf; omega)]
    ·unfold validVals
     by_cases h4 : ∀ j, j < v.length -> decide (0 <= v.getD j 0 /\ v.getD j 0 <= 9) = true
     ·rw [if_pos h4, (all_iff (d := (0 : Int)) (p := fun x => decide (0 <= x /\ x <= 9))).1 h4]
     ·rw [if_neg h4]
      congr 1; symm
      rw [Bool.eq_false_iff]
      exact fun h5 => h4 ((all_iff (d := (0 : Int)) (p := fun x => decide (0 <= x /\ x <= 9))).2 h5)
    ·have h1 : (j : Int) < (v.length : Int) := by omega
     simp only at hf
     simp only [spec_IsValidFact_l0, spec_IsValidFact_l0_b, h1, decide_true, cond_true, inb_lt hj, grd_true, at_lt hj, l1In, Option.bind_some, getD_lt hj, w64_succ (j := j) (by omega), ite_dec]
   ·simp only [h3, decide_false, Bool.not_false, cond_true, Bool.false_and]
  ·simp only [h, decide_false, Bool.not_false, cond_true, Bool.false_and]
def cmpInts : List Int -> List Int -> Int
 | [], [] => 0
 | [], _ :: _ => -1
 | _ :: _, [] => 1
 | a :: x, b :: y => if a < b then -1 else if a > b then 1 else cmpInts x y
theorem cmpInts_eq : ∀ (a b : List Int), cmpInts a b = 0 ↔ a = b
 | [], [] => by simp [cmpInts]
 | [], _ :: _ => by simp [cmpInts]
 | _ :: _, [] => by simp [cmpInts]
 | a :: x, b :: y => by
  simp only [cmpInts, List.cons.injEq]
  split
  ·rename_i h; constructor
   ·intro h; omega
   ·intro h2; omega
  ·split
   ·rename_i h; constructor
    ·intro h; omega
    ·intro h2; omega
   ·rw [cmpInts_eq x y]
    constructor
    ·intro h; exact ⟨by omega, h⟩
    ·intro h; exact h.2
theorem specInts {a b : List Int} (ha : a.length <= 1048576) (hb : b.length <= 1048576) (hN : 1048576 < N) : spec_l3Ints N a b = some (cmpInts a b) := by
 unfold spec_l3Ints spec_l3Ints_b
 have := loop (fun k (j : Nat) => spec_l3Ints_l0 N k a b (j : Int)) (fun j => j <= a.length /\ j <= b.length /\ cmpInts (a.drop j) (b.drop j) = cmpInts a b) (fun j => a.length - j) (fun o => o = some (cmpInts a b)) (fun k j hs => by
  obtain ⟨h1, h2, h3⟩ := hs
  by_cases hj : j < a.length
  ·by_cases hjb : j < b.length
   ·have e1 : (j : Int) < (a.length : Int) := by omega
    have e2 : (j : Int) < (b.length : Int) := by omega
    simp only [spec_l3Ints_l0, spec_l3Ints_l0_b, e1, e2, decide_true, cond_true, inb_lt hj, inb_lt hjb, grd_true, at_lt hj, at_lt hjb, w64_succ (j := j) (by omega)]
    rw [List.drop_eq_getElem_cons hj, List.drop_eq_getElem_cons hjb] at h3
    simp only [cmpInts] at h3
    by_cases hlt : a[j] < b[j]
    ·left; simp only [hlt, if_true, decide_true, cond_true] at h3 ⊢; rw [h3]
    ·by_cases hgt : a[j] > b[j]
     ·left; simp only [hlt, hgt, if_true, if_false, decide_true, decide_false, cond_true, cond_false] at h3 ⊢; rw [h3]
     ·right
      simp only [hlt, hgt, if_false, decide_false, cond_false] at h3 ⊢
      exact ⟨j + 1, ⟨by omega, by omega, h3⟩, by omega, rfl⟩
   ·left
    have e1 : (j : Int) < (a.length : Int) := by omega
    have e2 : ¬ (j : Int) < (b.length : Int) := by omega
    have e3 : ¬ (a.length : Int) < (b.length : Int) := by omega
    have e4 : (a.length : Int) > (b.length : Int) := by omega
    simp only [spec_l3Ints_l0, spec_l3Ints_l0_b, e1, e2, e3, e4, decide_true, decide_false, cond_true, cond_false]
    rw [List.drop_eq_getElem_cons hj, List.drop_of_length_le (l := b) (by omega)] at h3
    rw [<- h3]; rfl
  ·left
   have hja : j = a.length := by omega
   have e1 : ¬ (j : Int) < (a.length : Int) := by omega
   simp only [spec_l3Ints_l0, spec_l3Ints_l0_b, e1, decide_false, cond_false]
   rw [List.drop_of_length_le (l := a) (by omega)] at h3
   by_cases hlt : a.length < b.length
   ·have e2 : (a.length : Int) < (b.length : Int) := by omega
    simp only [e2, decide_true, cond_true]
    rw [List.drop_eq_getElem_cons (by omega)] at h3
    rw [<- h3]; rfl
   ·have e2 : ¬ (a.length : Int) < (b.length : Int) := by omega
    have e3 : ¬ (a.length : Int) > (b.length : Int) := by omega
    simp only [e2, e3, decide_false, cond_false]
    rw [List.drop_of_length_le (by omega)] at h3
    rw [<- h3]; rfl) N 0 (by omega) ⟨by omega, by omega, rfl⟩
 exact this
theorem implInts {a b : List Int} (ha : a.length <= 1048576) (hb : b.length <= 1048576) (hN : 1048576 < N) : slices_Compare_Lint_int N a b = some (cmpInts a b) := by
 have hc : ∀ x y : Int, cmp_Compare_int N x y = some (if x < y then -1 else if x > y then 1 else 0) := by
  intro x y
  simp only [cmp_Compare_int, cmp_isNaN_int, Option.bind_some, bneI, decide_true, Bool.not_true, cond_false]
  by_cases h1 : x < y
  ·simp [h1]
  ·by_cases h2 : x > y <;> simp [h1, h2]
 unfold slices_Compare_Lint_int slices_Compare_Lint_int_b
 have := loop (fun k (j : Nat) => slices_Compare_Lint_int_l0 N k a b a (a.length : Int) (j : Int)) (fun j => j <= a.length /\ j <= b.length /\ cmpInts (a.drop j) (b.drop j) = cmpInts a b) (fun j => a.length - j) (fun o => o = some (cmpInts a b)) (fun k j hs => by
  obtain ⟨h1, h2, h3⟩ := hs
  by_cases hj : j < a.length
  ·have e1 : (j : Int) < (a.length : Int) := by omega
   by_cases hjb : j < b.length
   ·have e2 : ¬ (j : Int) >= (b.length : Int) := by omega
    simp only [slices_Compare_Lint_int_l0, slices_Compare_Lint_int_l0_b, e1, e2, decide_true, decide_false, cond_true, cond_false, inb_lt hj, inb_lt hjb, grd_true, at_lt hj, at_lt hjb, w64_succ (j := j) (by omega), hc, Option.bind_some]
    rw [List.drop_eq_getElem_cons hj, List.drop_eq_getElem_cons hjb] at h3
    simp only [cmpInts] at h3
    by_cases hlt : a[j] < b[j]
    ·left; simp only [hlt, if_true] at h3 ⊢; rw [<- h3]; rfl
    ·by_cases hgt : a[j] > b[j]
     ·left; simp only [hlt, hgt, if_true, if_false] at h3 ⊢; rw [<- h3]; rfl
     ·right
      simp only [hlt, hgt, if_false] at h3 ⊢
      exact ⟨j + 1, ⟨by omega, by omega, h3⟩, by omega, rfl⟩
   ·left
    have e2 : (j : Int) >= (b.length : Int) := by omega
    simp only [slices_Compare_Lint_int_l0, slices_Compare_Lint_int_l0_b, e1, e2, decide_true, cond_true, inb_lt hj, grd_true]
    rw [List.drop_eq_getElem_cons hj, List.drop_of_length_le (l := b) (by omega)] at h3
    rw [<- h3]; rfl
  ·left
   have e1 : ¬ (j : Int) < (a.length : Int) := by omega
   simp only [slices_Compare_Lint_int_l0, slices_Compare_Lint_int_l0_b, e1, decide_false, cond_false]
   rw [List.drop_of_length_le (l := a) (by omega)] at h3
   by_cases hlt : a.length < b.length
   ·have e2 : (a.length : Int) < (b.length : Int) := by omega
    simp only [e2, decide_true, cond_true]
    rw [List.drop_eq_getElem_cons (by omega)] at h3
    rw [<- h3]; rfl
   ·have e2 : ¬ (a.length : Int) < (b.length : Int) := by omega
    simp only [e2, decide_false, cond_false]
    rw [List.drop_of_length_le (by omega)] at h3
    rw [<- h3]; rfl) N 0 (by omega) ⟨by omega, by omega, rfl⟩
 exact this
def cmpFacts (a b : Fact) : Int := if a.1 < b.1 then -1 else if a.1 > b.1 then 1 else cmpInts a.2 b.2
theorem specCmp {a b : Fact} (ha : a.2.length <= 1048576) (hb : b.2.length <= 1048576) (hN : 1048576 < N) : spec_CompareFacts N a b = some (cmpFacts a b) := by
 unfold spec_CompareFacts cmpFacts
 rw [specInts ha hb hN]
 by_cases h1 : a.1 < b.1
 ·simp [h1]
 ·by_cases h2 : a.1 > b.1 <;> simp [h1, h2]
theorem implCmp {a b : Fact} (ha : a.2.length <= 1048576) (hb : b.2.length <= 1048576) (hN : 1048576 < N) : impl_CompareFacts N a b = some (cmpFacts a b) := by
 unfold impl_CompareFacts cmpFacts impl_compare
 rw [implInts ha hb hN, bneI]
 by_cases h1 : a.1 < b.1
 ·have : ¬ a.1 = b.1 := by omega
  simp [h1, this]
 ·by_cases h2 : a.1 > b.1
  ·have : ¬ a.1 = b.1 := by omega
   simp [h1, h2, this]
  ·have : a.1 = b.1 := by omega
   simp [this]
theorem getD_any {α : Type} (d : α) {xs : List α} {p : α -> Bool} : (∃ j, j < xs.length /\ p (xs.getD j d) = true) ↔ xs.any p = true := by
 rw [List.any_eq_true]
 constructor
 ·rintro ⟨j, hj, h⟩
  rw [getD_lt hj] at h
  exact ⟨_, List.getElem_mem hj, h⟩
 ·rintro ⟨x, hx, h⟩
  obtain ⟨i, hi, rfl⟩ := List.mem_iff_getElem.1 hx
  exact ⟨i, hi, by rw [getD_lt hi]; exact h⟩
theorem contains_of {α : Type} {d : α} {xs : List α} {p : α -> Bool} {g : Option Int} (h : (∃ j, j < xs.length /\ p (xs.getD j d) = true /\ (∀ i, i < j -> p (xs.getD i d) = false) /\ g = some (j : Int)) \/ ((∀ i, i < xs.length -> p (xs.getD i d) = false) /\ g = some (-1))) : (g.bind fun r => some (decide (r >= 0))) = some (xs.any p) := by
 rcases h with ⟨j, h1, h2, _, rfl⟩ | ⟨h1, rfl⟩
 ·rw [(getD_any d).1 ⟨j, h1, h2⟩]
  simp
 ·have : xs.any p = false := by
   rw [Bool.eq_false_iff]
   intro h
   obtain ⟨j, hj, h2⟩ := (getD_any d).2 h
   rw [h1 j hj] at h2; simp at h2
  rw [this]; rfl
theorem areValues {v : List Int} (hv : v.length <= 1048576) (hN : 1048576 < N) : impl_areValues N v = some (validVals v) := by
 unfold impl_areValues slices_ContainsFunc_Lint_int_areValues_c1 slices_IndexFunc_Lint_int_areValues_c1 slices_IndexFunc_Lint_int_areValues_c1_b
 rw [contains_of (d := (0 : Int)) (xs := v) (p := fun x => !decide (0 <= x /\ x <= 9)) (first (n := v.length) (fun j => !decide (0 <= v.getD j 0 /\ v.getD j 0 <= 9)) (fun k i => slices_IndexFunc_Lint_int_areValues_c1_l0 N k v (v.length : Int) i) (fun k => by simp [slices_IndexFunc_Lint_int_areValues_c1_l0, slices_IndexFunc_Lint_int_areValues_c1_l0_b]) (fun k j hj => ?_) (by omega))]
 ·simp only [Option.bind_some, validVals]
  rw [show (v.any fun x => !decide (0 <= x /\ x <= 9)) = !(v.all fun x => decide (0 <= x /\ x <= 9)) from (List.not_all_eq_any_not (l := v) (p := fun x => decide (0 <= x /\ x <= 9))).symm, Bool.not_not]
 ·have h1 : (j : Int) < (v.length : Int) := by omega
  simp only [slices_IndexFunc_Lint_int_areValues_c1_l0, slices_IndexFunc_Lint_int_areValues_c1_l0_b, h1, decide_true, cond_true, inb_lt hj, grd_true, at_lt hj, impl_areValues_c1, within, Option.bind_some, getD_lt hj, w64_succ (j := j) (by omega)]
  cases decide (0 <= v[j] /\ v[j] <= 9) <;> rfl
theorem implFact1 {l : List Rel} {f : Fact} (hl : l.length <= 1048576) (hf : f.2.length <= 1048576) (hN : 1048576 < N) : impl_isFact N l f = some (fact1 l f) := by
 obtain ⟨r, v⟩ := f
 simp only [impl_isFact, within, Option.bind_some, fact1]
 rw [w64_id (by omega) (by omega)]
 by_cases h : 0 <= r /\ r <= (l.length : Int) - 1
 ·have h2 : r.toNat < l.length := by omega
  simp only [h, and_self, decide_true, cond_true, inb_int h.1 (show r < l.length by omega), grd_true, at_int h.1 (show r < l.length by omega), beqI, getD_lt h2, Bool.true_and]
  simp only at hf
  rw [areValues hf hN]
  cases decide ((v.length : Int) = l[r.toNat].2.1) <;> rfl
 ·simp only [h, decide_false, cond_false, Bool.false_and]
def factAt (d : Db) (j : Nat) : Fact := d.2.getD j (0, [])
def factsOk (d : Db) : Prop := ∀ j, j < d.2.length -> (fact1 d.1 (factAt d j) && (decide (j = 0) || decide (cmpFacts (factAt d (j - 1)) (factAt d j) < 0))) = true
instance (d : Db) : Decidable (factsOk d) := by unfold factsOk; infer_instance
def validDb (d : Db) : Bool := validRels d.1 && (decide (d.2.length <= 14) && decide (factsOk d))
theorem specDb {d : Db} (h : SmallDb d) (hN : 1048576 < N) : spec_IsValidDatabase N d = some (validDb d) := by
 have hv : ∀ j, j < d.2.length -> (factAt d j).2.length <= 1048576 := fun j hj => by unfold factAt; rw [getD_lt hj]; exact h.vals _ (List.getElem_mem hj)
 unfold spec_IsValidDatabase spec_IsValidDatabase_b
 rw [everyE (n := d.2.length) (fun j => (validRels d.1 && fact1 d.1 (factAt d j)) && (decide (j = 0) || decide (cmpFacts (factAt d (j - 1)) (factAt d j) < 0))) (some false) (some (validRels d.1 && decide (d.2.length <= 14))) (fun k i => spec_IsValidDatabase_l0 N k d.1 d.2 i)
  (fun k => by
   simp only [spec_IsValidDatabase_l0, spec_IsValidDatabase_l0_b, Int.lt_irrefl, decide_false, cond_false, specRels h.rels hN, Option.bind_some]
   cases validRels d.1 with
   | false => rfl
   | true => simp only [cond_true, Bool.true_and, Option.some.injEq]; exact decide_eq_decide.2 (by omega)) (fun k j hj => ?_) (by have := h.facts; omega)]
 ·unfold validDb factsOk
  cases hr : validRels d.1 with
  | true =>
   simp only [Bool.true_and]
   by_cases h2 : ∀ j, j < d.2.length -> (fact1 d.1 (factAt d j) && (decide (j = 0) || decide (cmpFacts (factAt d (j - 1)) (factAt d j) < 0))) = true
   ·rw [if_pos h2, decide_eq_true h2, Bool.and_true]
   ·rw [if_neg h2, decide_eq_false h2, Bool.and_false]
  | false => simp
 ·have h1 : (j : Int) < (d.2.length : Int) := by omega
  have hf := h.facts
  have ha : at_ (0, []) d.2 (j : Int) = factAt d j := by unfold factAt; rw [at_lt hj, getD_lt hj]
  simp only [spec_IsValidDatabase_l0, spec_IsValidDatabase_l0_b, h1, decide_true, cond_true, inb_lt hj, grd_true, ha, specFact h.rels (hv j hj) hN, Option.bind_some, w64_succ (j := j) (by omega)]
  cases validRels d.1 && fact1 d.1 (factAt d j) with
  | false => rfl
  | true =>
   simp only [Bool.not_true, cond_false, Bool.true_and]
   by_cases h0 : j = 0
   ·subst h0; simp
   ·have h3 : (j : Int) > 0 := by omega
    have h4 : j - 1 < d.2.length := by omega
    have hb : at_ (0, []) d.2 ((j - 1 : Nat) : Int) = factAt d (j - 1) := by unfold factAt; rw [at_lt h4, getD_lt h4]
    simp only [h3, decide_true, cond_true, w64_pred (show 0 < j by omega) (by omega), inb_lt h4, grd_true, hb, specCmp (hv _ h4) (hv _ hj) hN, Option.bind_some, h0, decide_false, Bool.false_or]
    by_cases h5 : cmpFacts (factAt d (j - 1)) (factAt d j) < 0
    ·have : ¬ cmpFacts (factAt d (j - 1)) (factAt d j) >= 0 := by omega
     simp [h5, this]
    ·have : cmpFacts (factAt d (j - 1)) (factAt d j) >= 0 := by omega
     simp [h5, this]
theorem implDb {d : Db} (h : SmallDb d) (hN : 1048576 < N) : impl_IsValidDatabase N d = some (validDb d) := by
 have hv : ∀ j, j < d.2.length -> (factAt d j).2.length <= 1048576 := fun j hj => by unfold factAt; rw [getD_lt hj]; exact h.vals _ (List.getElem_mem hj)
 unfold impl_IsValidDatabase impl_IsValidDatabase_b
 rw [implRels h.rels hN, Option.bind_some]
 unfold validDb
 cases validRels d.1 with
 | false => rfl
 | true =>
  simp only [Bool.not_true, cond_false, Bool.true_and]
  by_cases h14 : d.2.length <= 14
  ·have : ¬ (d.2.length : Int) > 14 := by omega
   simp only [this, decide_false, cond_false, h14, decide_true, Bool.true_and]
   rw [everyE (n := d.2.length) (fun j => fact1 d.1 (factAt d j) && (decide (j = 0) || decide (cmpFacts (factAt d (j - 1)) (factAt d j) < 0))) (some false) (some true) (fun k i => impl_IsValidDatabase_l0 N k d.1 d.2 d.2 (d.2.length : Int) i)
    (fun k => by simp [impl_IsValidDatabase_l0, impl_IsValidDatabase_l0_b]) (fun k j hj => ?_) (by omega)]
   ·unfold factsOk
    by_cases h2 : ∀ j, j < d.2.length -> (fact1 d.1 (factAt d j) && (decide (j = 0) || decide (cmpFacts (factAt d (j - 1)) (factAt d j) < 0))) = true
    ·rw [if_pos h2, decide_eq_true h2]
    ·rw [if_neg h2, decide_eq_false h2]
   ·have h1 : (j : Int) < (d.2.length : Int) := by omega
    have ha : at_ (0, []) d.2 (j : Int) = factAt d j := by unfold factAt; rw [at_lt hj, getD_lt hj]
    simp only [impl_IsValidDatabase_l0, impl_IsValidDatabase_l0_b, h1, decide_true, cond_true, inb_lt hj, grd_true, ha, implFact1 h.rels (hv j hj) hN, Option.bind_some, w64_succ (j := j) (by omega)]
    cases fact1 d.1 (factAt d j) with
    | false => rfl
    | true =>
     simp only [Bool.not_true, cond_false, Bool.true_and]
     by_cases h0 : j = 0
     ·subst h0; simp
     ·have h3 : (j : Int) > 0 := by omega
      have h4 : j - 1 < d.2.length := by omega
      have hb : at_ (0, []) d.2 ((j - 1 : Nat) : Int) = factAt d (j - 1) := by unfold factAt; rw [at_lt h4, getD_lt h4]
      simp only [h3, decide_true, cond_true, w64_pred (show 0 < j by omega) (by omega), inb_lt h4, grd_true, hb, implCmp (hv _ h4) (hv _ hj) hN, Option.bind_some, h0, decide_false, Bool.false_or]
      by_cases h5 : cmpFacts (factAt d (j - 1)) (factAt d j) < 0
      ·have : ¬ cmpFacts (factAt d (j - 1)) (factAt d j) >= 0 := by omega
       simp [h5, this]
      ·have : cmpFacts (factAt d (j - 1)) (factAt d j) >= 0 := by omega
       simp [h5, this]
  ·have : (d.2.length : Int) > 14 := by omega
   simp [this, h14]
theorem cmpInts_trans : ∀ (a b c : List Int), cmpInts a b < 0 -> cmpInts b c < 0 -> cmpInts a c < 0
 | [], [], c, h, _ => by simp [cmpInts] at h
 | [], _ :: _, [], _, h => by simp [cmpInts] at h
 | [], _ :: _, _ :: _, _, _ => by simp [cmpInts]
 | _ :: _, [], c, h, _ => by simp [cmpInts] at h
 | _ :: _, _ :: _, [], _, h => by simp [cmpInts] at h
 | x :: a, y :: b, z :: c, h1, h2 => by
  simp only [cmpInts] at h1 h2 ⊢
  by_cases hxy : x < y
  ·by_cases hyz : y < z
   ·rw [if_pos (by omega)]; omega
   ·rw [if_neg hyz] at h2
    split at h2
    ·omega
    ·rw [if_pos (by omega)]; omega
  ·rw [if_neg hxy] at h1
   split at h1
   ·omega
   ·have : x = y := by omega
    subst this
    by_cases hyz : x < z
    ·rw [if_pos hyz]; omega
    ·rw [if_neg hyz] at h2 ⊢
     split at h2
     ·omega
     ·rename_i hg
      rw [if_neg hg]
      exact cmpInts_trans a b c h1 h2
theorem cmpFacts_trans {a b c : Fact} (h1 : cmpFacts a b < 0) (h2 : cmpFacts b c < 0) : cmpFacts a c < 0 := by
 unfold cmpFacts at h1 h2 ⊢
 by_cases hab : a.1 < b.1
 ·by_cases hbc : b.1 < c.1
  ·rw [if_pos (by omega)]; omega
  ·rw [if_neg hbc] at h2
   split at h2
   ·omega
   ·rw [if_pos (by omega)]; omega
 ·rw [if_neg hab] at h1
  split at h1
  ·omega
  ·by_cases hbc : b.1 < c.1
   ·rw [if_pos (by omega)]; omega
   ·rw [if_neg hbc] at h2
    split at h2
    ·omega
    ·rw [if_neg (by omega), if_neg (by omega)]
     exact cmpInts_trans _ _ _ h1 h2
theorem cmp_take : ∀ (n : Nat) (a b c : List Int), cmpInts a b < 0 -> cmpInts b c < 0 -> a.take n = c.take n -> a.length = b.length -> b.length = c.length -> a.take n = b.take n
 | 0, _, _, _, _, _, _, _, _ => by simp
 | n + 1, [], [], _, h, _, _, _, _ => by simp [cmpInts] at h
 | n + 1, [], _ :: _, _, _, _, _, h, _ => by simp at h
 | n + 1, _ :: _, [], _, _, _, _, h, _ => by simp at h
 | n + 1, _ :: _, _ :: _, [], _, _, _, _, h => by simp at h
 | n + 1, x :: a, y :: b, z :: c, h1, h2, h3, h4, h5 => by
  simp only [List.take_succ_cons, List.cons.injEq] at h3 ⊢
  simp only [cmpInts] at h1 h2
  obtain ⟨rfl, h3⟩ := h3
  by_cases hxy : x < y
  ·rw [if_neg (by omega), if_pos (by omega)] at h2; omega
  ·rw [if_neg hxy] at h1
   split at h1
   ·omega
   ·have : x = y := by omega
    subst this
    rw [if_neg (by omega), if_neg (by omega)] at h2
    exact ⟨rfl, cmp_take n a b c h1 h2 h3 (by simpa using h4) (by simpa using h5)⟩
section
variable (S : Nat -> Nat -> Bool)
def blk (n s : Nat) : List Nat := (List.range n).filter (S s)
def isSt (s : Nat) : Bool := (List.range s).all fun k => !S s k
def sts (n : Nat) : List Nat := (List.range n).filter (isSt S)
def B (n : Nat) : List (List Nat) := (sts S n).map (blk S n)
structure Runs (n : Nat) : Prop where
 refl : ∀ i, S i i = true
 symm : ∀ i k, S i k = true -> S k i = true
 trans : ∀ i j k, S i j = true -> S j k = true -> S i k = true
 run : ∀ i j k, i <= j -> j <= k -> k < n -> S i k = true -> S i j = true
variable {S}
theorem isSt_iff {s : Nat} : isSt S s = true ↔ ∀ k, k < s -> S s k = false := by
 unfold isSt
 rw [List.all_eq_true]
 constructor
 ·intro h k hk
  have := h k (List.mem_range.2 hk)
  simpa using this
 ·intro h k hk
  rw [h k (List.mem_range.1 hk)]; rfl
theorem sts_succ (n : Nat) : sts S (n + 1) = sts S n ++ (if isSt S n = true then [n] else []) := by
 unfold sts
 rw [List.range_succ, List.filter_append]
 congr 1
 by_cases h : isSt S n = true <;> simp [h]
theorem blk_succ (n s : Nat) : blk S (n + 1) s = blk S n s ++ (if S s n = true then [n] else []) := by
 unfold blk
 rw [List.range_succ, List.filter_append]
 congr 1
 by_cases h : S s n = true <;> simp [h]
theorem blk_head {n s : Nat} (hr : S s s = true) (hs : s < n) : ∃ h r, blk S n s = h :: r /\ S s h = true /\ (h = s ↔ isSt S s = true) := by
 have hm : s ∈ blk S n s := List.mem_filter.2 ⟨List.mem_range.2 hs, hr⟩
 cases hb : blk S n s with
 | nil => rw [hb] at hm; simp at hm
 | cons h r =>
  have hh : (blk S n s).head? = some h := by rw [hb]; rfl
  unfold blk at hh
  rw [List.head?_filter, List.find?_range_eq_some] at hh
  obtain ⟨h1, h2, h3⟩ := hh
  refine ⟨h, r, rfl, h1, ?_⟩
  constructor
  ·intro e
   subst e
   rw [isSt_iff]
   intro k hk
   have := h3 k hk
   simpa using this
  ·intro hst
   have h4 : ¬ h < s := fun hlt => by
    rw [isSt_iff.1 hst h hlt] at h1; simp at h1
   have h5 : ¬ s < h := fun hlt => by
    have := h3 s hlt
    rw [hr] at this; simp at this
   omega
end
def keyLen (l : List Rel) (f : Fact) : Int := (l.getD f.1.toNat (⟨#[]⟩, 0, 0)).2.2
def keyOf (l : List Rel) (f : Fact) : List Int := f.2.take (keyLen l f).toNat
def sameK (l : List Rel) (a b : Fact) : Bool := decide (a.1 = b.1) && decide (keyOf l a = keyOf l b)
theorem validRel_key {r : Rel} (h : validRel r = true) : 0 <= r.2.2 /\ r.2.2 <= r.2.1 := by
 unfold validRel spec_IsValidRelation at h
 by_cases h1 : r.1.size = 1
 ·have hb : ∃ b, byteAt r.1 0 = some b := by
   unfold byteAt
   have : (0 : Int).toNat < r.1.size := by omega
   exact ⟨r.1[(0 : Int).toNat], by rw [if_pos (by omega), getElem?_pos]⟩
  obtain ⟨b, hb⟩ := hb
  rw [hb] at h
  simp only [Option.bind_some, l1In] at h
  by_cases h2 : 0 <= r.2.2 /\ r.2.2 <= r.2.1
  ·exact h2
  ·rw [decide_eq_false h2] at h
   exfalso
   revert h
   cases ((r.1.size : Int) == 1) <;> cases decide ((b.toNat : Int) >= 97) <;> cases decide ((b.toNat : Int) <= 122) <;> cases decide (1 <= r.2.1 /\ r.2.1 <= 3) <;> simp
 ·have h0 : ((r.1.size : Int) == 1) = false := by rw [beqI]; simp; omega
  rw [h0] at h
  simp at h
theorem validRels_at {l : List Rel} (h : validRels l = true) {j : Nat} (hj : j < l.length) : validRel (l.getD j (⟨#[]⟩, 0, 0)) = true := by
 have := (of_decide_eq_true h).1 j hj
 rw [Bool.and_eq_true] at this
 exact this.1
structure GoodFact (l : List Rel) (f : Fact) : Prop where
 lo : 0 <= f.1
 hi : f.1 < (l.length : Int)
 len : (f.2.length : Int) = (l.getD f.1.toNat (⟨#[]⟩, 0, 0)).2.1
 k0 : 0 <= keyLen l f
 k1 : keyLen l f <= (f.2.length : Int)
theorem goodFact {l : List Rel} {f : Fact} (hl : validRels l = true) (hf : fact1 l f = true) : GoodFact l f := by
 unfold fact1 at hf
 rw [Bool.and_eq_true, Bool.and_eq_true, decide_eq_true_eq, decide_eq_true_eq] at hf
 obtain ⟨⟨h1, h2⟩, h3, h4⟩ := hf
 have := validRel_key (validRels_at hl (j := f.1.toNat) (by omega))
 exact ⟨h1, by omega, h3, this.1, by rw [h3]; exact this.2⟩
theorem implEqual {a b : List Int} (ha : a.length <= 1048576) (hN : 1048576 < N) : slices_Equal_Lint_int N a b = some (decide (a = b)) := by
 unfold slices_Equal_Lint_int slices_Equal_Lint_int_b
 by_cases hl : a.length = b.length
 ·have : ((a.length : Int) != (b.length : Int)) = false := by rw [bneI]; simp; omega
  rw [this, cond_false, every (n := a.length) (fun j => decide (a[j]? = b[j]?)) (fun k i => slices_Equal_Lint_int_l0 N k a b (a.length : Int) i) (fun k => by simp [slices_Equal_Lint_int_l0, slices_Equal_Lint_int_l0_b]) (fun k j hj => ?_) (by omega)]
  ·congr 1
   exact decide_eq_decide.2 (list_eq_iff hl).symm
  ·have h1 : (j : Int) < (a.length : Int) := by omega
   have hjb : j < b.length := by omega
   simp only [slices_Equal_Lint_int_l0, slices_Equal_Lint_int_l0_b, h1, decide_true, cond_true, inb_lt hj, inb_lt hjb, grd_true, at_lt hj, at_lt hjb, w64_succ (j := j) (by omega), bneI, List.getElem?_eq_getElem hj, List.getElem?_eq_getElem hjb, Option.some.injEq]
   by_cases h : a[j] = b[j] <;> simp [h]
 ·have : ((a.length : Int) != (b.length : Int)) = true := by rw [bneI]; simp; omega
  have hne : ¬ a = b := fun h => hl (by rw [h])
  rw [this, cond_true, decide_eq_false hne]
theorem subOk_true {lo hi : Int} {n : Nat} (h1 : 0 <= lo) (h2 : lo <= hi) (h3 : hi <= (n : Int)) : subOk lo hi n = true := by
 unfold subOk; rw [decide_eq_true h1, decide_eq_true h2, decide_eq_true h3]; rfl
theorem appOk_lt {α : Type} {s x : List α} {b : Nat} (hb : b <= 1000) (h : s.length + x.length <= 140737488355) : appOk s x b = true := by
 unfold appOk
 refine decide_eq_true ?_
 calc (s.length + x.length) * b <= 140737488355 * 1000 := Nat.mul_le_mul h hb
  _ <= _ := by omega
theorem specKey {l : List Rel} {f : Fact} (hl : l.length <= 1048576) (hf : f.2.length <= 1048576) (hN : 1048576 < N) (hv : validRels l = true) (h1 : fact1 l f = true) : spec_KeyOf N l f = some (keyOf l f) := by
 have g := goodFact hv h1
 have e : (at_ (⟨#[]⟩, 0, 0) l f.1).2.2 = keyLen l f := rfl
 unfold spec_KeyOf
 rw [specFact hl hf hN, hv, h1, Option.bind_some, inb_int g.lo g.hi, grd_true]
 simp only [Bool.and_self, Bool.not_true, cond_false, e]
 rw [subOk_true (by omega) g.k0 g.k1, grd_true, appOk_lt (by omega) (by simp only [List.length_nil, List.length_take]; omega), grd_true]
 rfl
theorem specSame {l : List Rel} {a b : Fact} (hl : l.length <= 1048576) (ha : a.2.length <= 1048576) (hb : b.2.length <= 1048576) (hN : 1048576 < N) (hv : validRels l = true) (h1 : fact1 l a = true) (h2 : fact1 l b = true) : spec_HaveSameKey N l a b = some (sameK l a b) := by
 unfold spec_HaveSameKey sameK
 rw [specFact hl ha hN, specFact hl hb hN, hv, h1, h2]
 simp only [Bool.and_self, Option.bind_some, cond_true, beqI]
 by_cases h : a.1 = b.1
 ·rw [decide_eq_true h, cond_true, specKey hl ha hN hv h1, specKey hl hb hN hv h2, Option.bind_some, Option.bind_some,
   specInts (by unfold keyOf; rw [List.length_take]; omega) (by unfold keyOf; rw [List.length_take]; omega) hN, Option.bind_some, Bool.true_and]
  congr 1
  exact decide_eq_decide.2 (cmpInts_eq _ _)
 ·rw [decide_eq_false h]; rfl
theorem implSame {l : List Rel} {a b : Fact} (ha : a.2.length <= 1048576) (hb : b.2.length <= 1048576) (hN : 1048576 < N) (hv : validRels l = true) (h1 : fact1 l a = true) (h2 : fact1 l b = true) : impl_sameKey N l a b = some (sameK l a b) := by
 have g := goodFact hv h1
 have g' := goodFact hv h2
 have e : (at_ (⟨#[]⟩, 0, 0) l a.1).2.2 = keyLen l a := rfl
 unfold impl_sameKey sameK
 rw [bneI]
 by_cases h : a.1 = b.1
 ·have hk : keyLen l a = keyLen l b := by unfold keyLen; rw [h]
  rw [decide_eq_true h, Bool.not_true, cond_false, inb_int g.lo g.hi, grd_true, e]
  rw [subOk_true (by omega) g.k0 g.k1, grd_true, subOk_true (by omega) g.k0 (by have := g'.k1; rw [<- hk] at this; exact this), grd_true, implEqual (by rw [List.length_take]; omega) hN, Option.bind_some, Bool.true_and]
  unfold keyOf
  rw [<- hk]
 ·rw [decide_eq_false h]; rfl
def sameD (d : Db) (i k : Nat) : Bool := sameK d.1 (factAt d i) (factAt d k)
structure ValidDb (d : Db) : Prop where
 rels : validRels d.1 = true
 few : d.2.length <= 14
 fact : ∀ j, j < d.2.length -> fact1 d.1 (factAt d j) = true
 lt : ∀ i k, i < k -> k < d.2.length -> cmpFacts (factAt d i) (factAt d k) < 0
theorem validDb_of {d : Db} (h : validDb d = true) : ValidDb d := by
 unfold validDb at h
 rw [Bool.and_eq_true, Bool.and_eq_true, decide_eq_true_eq, decide_eq_true_eq] at h
 obtain ⟨h1, h2, h3⟩ := h
 refine ⟨h1, h2, fun j hj => ?_, ?_⟩
 ·have := h3 j hj
  rw [Bool.and_eq_true] at this
  exact this.1
 ·have step : ∀ j, 0 < j -> j < d.2.length -> cmpFacts (factAt d (j - 1)) (factAt d j) < 0 := by
   intro j h0 hj
   have := h3 j hj
   rw [Bool.and_eq_true, Bool.or_eq_true, decide_eq_true_eq, decide_eq_true_eq] at this
   rcases this.2 with h | h
   ·omega
   ·exact h
  intro i k
  induction k with
  | zero => intro h; omega
  | succ k ih =>
   intro hik hk
   have hs := step (k + 1) (by omega) hk
   rw [Nat.add_sub_cancel] at hs
   by_cases h : i = k
   ·subst h; exact hs
   ·exact cmpFacts_trans (ih (by omega) (by omega)) hs
theorem runs {d : Db} (h : ValidDb d) : Runs (sameD d) d.2.length := by
 refine ⟨fun i => by simp [sameD, sameK], fun i k hs => ?_, fun i j k h1 h2 => ?_, fun i j k hij hjk hk hs => ?_⟩
 ·simp only [sameD, sameK, Bool.and_eq_true, decide_eq_true_eq] at hs ⊢
  exact ⟨hs.1.symm, hs.2.symm⟩
 ·simp only [sameD, sameK, Bool.and_eq_true, decide_eq_true_eq] at h1 h2 ⊢
  exact ⟨h1.1.trans h2.1, h1.2.trans h2.2⟩
 ·by_cases e1 : i = j
  ·subst e1; simp [sameD, sameK]
  ·by_cases e2 : j = k
   ·subst e2; exact hs
   ·have l1 := h.lt i j (by omega) (by omega)
    have l2 := h.lt j k (by omega) hk
    have g1 := goodFact h.rels (h.fact i (by omega))
    have g2 := goodFact h.rels (h.fact j (by omega))
    have g3 := goodFact h.rels (h.fact k hk)
    simp only [sameD, sameK, Bool.and_eq_true, decide_eq_true_eq] at hs ⊢
    obtain ⟨s1, s2⟩ := hs
    generalize factAt d i = a at *
    generalize factAt d j = b at *
    generalize factAt d k = c at *
    have hab : a.1 = b.1 := by
     unfold cmpFacts at l1 l2
     by_cases q1 : a.1 < b.1
     ·have : b.1 > c.1 := by omega
      rw [if_neg (by omega), if_pos this] at l2; omega
     ·rw [if_neg q1] at l1
      split at l1
      ·omega
      ·omega
    have hbc : b.1 = c.1 := by omega
    have c1 : cmpInts a.2 b.2 < 0 := by unfold cmpFacts at l1; rw [if_neg (by omega), if_neg (by omega)] at l1; exact l1
    have c2 : cmpInts b.2 c.2 < 0 := by unfold cmpFacts at l2; rw [if_neg (by omega), if_neg (by omega)] at l2; exact l2
    have k1 : keyLen d.1 a = keyLen d.1 b := by unfold keyLen; rw [hab]
    have k2 : keyLen d.1 b = keyLen d.1 c := by unfold keyLen; rw [hbc]
    have n1 := g1.len
    have n2 := g2.len
    have n3 := g3.len
    rw [hab] at n1
    rw [hbc] at n1 n2
    unfold keyOf at s2 ⊢
    rw [<- k2, <- k1] at s2
    rw [<- k1]
    exact ⟨hab, cmp_take _ _ _ _ c1 c2 s2 (by omega) (by omega)⟩
theorem sorted_ext : ∀ {a b : List Int}, a.Pairwise (· < ·) -> b.Pairwise (· < ·) -> (∀ x, x ∈ a ↔ x ∈ b) -> a = b
 | [], [], _, _, _ => rfl
 | [], y :: b, _, _, h => by have := (h y).2 (by simp); simp at this
 | x :: a, [], _, _, h => by have := (h x).1 (by simp); simp at this
 | x :: a, y :: b, ha, hb, h => by
  rw [List.pairwise_cons] at ha hb
  have e : x = y := by
   have h1 := (h x).1 (by simp)
   have h2 := (h y).2 (by simp)
   rcases List.mem_cons.1 h1 with h1 | h1
   ·exact h1
   ·rcases List.mem_cons.1 h2 with h2 | h2
    ·exact h2.symm
    ·have := ha.1 y h2
     have := hb.1 x h1
     omega
  subst e
  rw [sorted_ext ha.2 hb.2 fun z => ?_]
  have hz := h z
  simp only [List.mem_cons] at hz
  constructor
  ·intro hm
   have := ha.1 z hm
   rcases hz.1 (.inr hm) with h3 | h3
   ·omega
   ·exact h3
  ·intro hm
   have := hb.1 z hm
   rcases hz.2 (.inr hm) with h3 | h3
   ·omega
   ·exact h3
def uniq (s : List Int) : List Int := ((List.range s.length).filter fun j => decide (j = 0 \/ s.toArray[j]! ≠ s.toArray[j - 1]!)).map fun j => s.toArray[j]!
theorem arr_at {s : List Int} {j : Nat} (h : j < s.length) : s.toArray[j]! = s[j] := by
 rw [getElem!_pos s.toArray j (by simpa using h)]; simp
theorem uniq_sorted {s : List Int} (h : s.Pairwise (· <= ·)) : (uniq s).Pairwise (· < ·) := by
 unfold uniq
 rw [List.pairwise_map]
 refine (List.Pairwise.filter _ List.pairwise_lt_range).imp_of_mem fun {i j} hi hj hlt => ?_
 obtain ⟨hj1, hj2⟩ := List.mem_filter.1 hj
 have hj1 := List.mem_range.1 hj1
 rw [decide_eq_true_eq, arr_at hj1, arr_at (show j - 1 < s.length by omega)] at hj2
 rw [arr_at (show i < s.length by omega), arr_at hj1]
 have h1 := List.pairwise_iff_getElem.1 h (j - 1) j (by omega) hj1 (by omega)
 have h2 : s[i] <= s[j - 1] := by
  by_cases e : i = j - 1
  ·subst e; exact Int.le_refl _
  ·exact List.pairwise_iff_getElem.1 h i (j - 1) (by omega) (by omega) (by omega)
 rcases hj2 with hj2 | hj2 <;> omega
theorem uniq_mem {s : List Int} (x : Int) : x ∈ uniq s ↔ x ∈ s := by
 unfold uniq
 rw [List.mem_map]
 constructor
 ·rintro ⟨j, hj, rfl⟩
  have := List.mem_range.1 (List.mem_filter.1 hj).1
  rw [arr_at this]
  exact List.getElem_mem this
 ·intro hx
  obtain ⟨j, hj, rfl⟩ := List.mem_iff_getElem.1 hx
  have key : ∀ j (hj : j < s.length), ∃ i, i ∈ ((List.range s.length).filter fun j => decide (j = 0 \/ s.toArray[j]! ≠ s.toArray[j - 1]!)) /\ s.toArray[i]! = s[j] := by
   intro j
   induction j with
   | zero => intro hj; exact ⟨0, List.mem_filter.2 ⟨List.mem_range.2 hj, by simp⟩, arr_at hj⟩
   | succ j ih =>
    intro hj
    by_cases e : s[j + 1] = s[j]
    ·obtain ⟨i, h1, h2⟩ := ih (by omega)
     exact ⟨i, h1, by rw [h2, e]⟩
    ·refine ⟨j + 1, List.mem_filter.2 ⟨List.mem_range.2 hj, ?_⟩, arr_at hj⟩
     rw [decide_eq_true_eq, arr_at hj, Nat.add_sub_cancel, arr_at (show j < s.length by omega)]
     exact .inr e
  exact key j hj
def setOf (s : List Int) : List Int := uniq (s.mergeSort fun a b => decide (a <= b))
theorem setOf_sorted (s : List Int) : (setOf s).Pairwise (· < ·) := by
 refine uniq_sorted ?_
 have := List.pairwise_mergeSort (le := fun a b : Int => decide (a <= b)) (fun a b c h1 h2 => by simp only [decide_eq_true_eq] at *; omega) (fun a b => by simp only [Bool.or_eq_true, decide_eq_true_eq]; omega) s
 exact this.imp fun h => by simpa using h
theorem setOf_mem {s : List Int} (x : Int) : x ∈ setOf s ↔ x ∈ s := by unfold setOf; rw [uniq_mem, List.mem_mergeSort]
theorem setOf_len (s : List Int) : (setOf s).length <= s.length := by
 unfold setOf uniq
 rw [List.length_map, List.length_mergeSort]
 have := List.length_filter_le (fun j => decide (j = 0 \/ (s.mergeSort fun a b => decide (a <= b)).toArray[j]! ≠ (s.mergeSort fun a b => decide (a <= b)).toArray[j - 1]!)) (List.range (s.mergeSort fun a b => decide (a <= b)).length)
 rwa [List.length_range, List.length_mergeSort] at this
theorem concatV {L : List (List Int)} (hl : L.length <= 1000) (hs : (L.map List.length).sum <= 1000000) (hN : 1048576 < N) : slices_Concat_Lint_int N L = some L.flatten := by
 unfold slices_Concat_Lint_int slices_Concat_Lint_int_b
 have sum_take : ∀ (L : List (List Int)) (j : Nat), ((L.take j).map List.length).sum <= (L.map List.length).sum := by
  intro L
  induction L with
  | nil => intro j; simp
  | cons b L ih =>
   intro j
   cases j with
   | zero => simp
   | succ j => have := ih j; simp only [List.take_succ_cons, List.map_cons, List.sum_cons]; omega
 have flat_len : ∀ L : List (List Int), L.flatten.length = (L.map List.length).sum := fun L => List.length_flatten
 have inner : slices_Concat_Lint_int_l1 N N [] L (L.length : Int) 0 = some L.flatten := by
  have := loop (fun k (s : Nat) => slices_Concat_Lint_int_l1 N k (L.take s).flatten L (L.length : Int) (s : Int)) (fun s => s <= L.length) (fun s => L.length - s) (fun o => o = some L.flatten) (fun k j hj' => by
   simp only [slices_Concat_Lint_int_l1, slices_Concat_Lint_int_l1_b]
   by_cases hj : j < L.length
   ·right
    refine ⟨j + 1, hj, by omega, ?_⟩
    have h1 : (j : Int) < (L.length : Int) := by omega
    have t := sum_take L (j + 1)
    rw [List.take_succ_eq_append_getElem hj, List.map_append, List.sum_append] at t
    simp only [List.map_cons, List.map_nil, List.sum_cons, List.sum_nil] at t
    simp only [h1, decide_true, cond_true, inb_lt hj, grd_true, at_lt hj]
    rw [appOk_lt (by omega) (by rw [flat_len]; omega), grd_true, w64_succ (by omega), List.take_succ_eq_append_getElem hj, List.flatten_append]
    simp only [List.flatten_cons, List.flatten_nil, List.append_nil]
   ·left
    have h1 : ¬ (j : Int) < (L.length : Int) := by omega
    simp only [h1, decide_false, cond_false]
    rw [List.take_of_length_le (by omega)]) N 0 (by omega) (by omega)
  exact this
 have := loop (fun k (s : Nat) => slices_Concat_Lint_int_l0 N k L (((L.take s).map List.length).sum : Int) L (L.length : Int) (s : Int)) (fun s => s <= L.length) (fun s => L.length - s) (fun o => o = some L.flatten) (fun k j hj' => by
  simp only [slices_Concat_Lint_int_l0, slices_Concat_Lint_int_l0_b]
  by_cases hj : j < L.length
  ·right
   refine ⟨j + 1, hj, by omega, ?_⟩
   have h1 : (j : Int) < (L.length : Int) := by omega
   have t := sum_take L (j + 1)
   have e : ((L.take (j + 1)).map List.length).sum = ((L.take j).map List.length).sum + (L[j]).length := by
    rw [List.take_succ_eq_append_getElem hj, List.map_append, List.sum_append]
    simp
   have ew : w64 ((((L.take j).map List.length).sum : Int) + ((L[j]).length : Int)) = (((L.take (j + 1)).map List.length).sum : Int) := by
    rw [e, w64_id (by omega) (by omega)]
    omega
   have h2 : ¬ ((((L.take (j + 1)).map List.length).sum : Nat) : Int) < 0 := by omega
   simp only [h1, decide_true, cond_true, inb_lt hj, grd_true, at_lt hj, ew, decide_eq_false h2, cond_false, w64_succ (j := j) (by omega)]
  ·left
   have h1 : ¬ (j : Int) < (L.length : Int) := by omega
   have e : L.take j = L := List.take_of_length_le (by omega)
   have g : (decide ((0 : Int) <= ((L.map List.length).sum : Int)) && decide ((([] : List Int).length + (((L.map List.length).sum : Nat) : Int).toNat) * 8 <= 140737488355328)) = true := by
    rw [Bool.and_eq_true, decide_eq_true_eq, decide_eq_true_eq, Int.toNat_natCast]
    simp only [List.length_nil]
    omega
   simp only [h1, decide_false, cond_false, e, slices_Grow_Lint_int, g, grd_true, Option.bind_some, inner]) N 0 (by omega) (by omega)
 exact this
theorem unionV {a b : List Int} (ha : a.length <= 100000) (hb : b.length <= 100000) (hN : 1048576 < N) : impl_union N a b = some (setOf (a ++ b)) := by
 unfold impl_union
 rw [concatV (by simp) (by simp; omega) hN, Option.bind_some]
 unfold slices_Sort_Lint_int slices_Compact_Lint_int
 have e : [a, b].flatten = a ++ b := by simp
 rw [e, decide_eq_true (by rw [List.length_append]; omega), grd_true]
 rfl
def validSet (n : Nat) (l : List Int) : Bool := decide (∀ j, j < l.length -> (decide (0 <= l.getD j 0 /\ l.getD j 0 <= (n : Int) - 1) && (decide (j = 0) || decide (l.getD (j - 1) 0 < l.getD j 0))) = true)
theorem specSet {d : Db} {l : List Int} (h : SmallDb d) (hl : l.length <= 1048576) (hN : 1048576 < N) : spec_l4Set N d l = some (validSet d.2.length l) := by
 have hf := h.facts
 unfold spec_l4Set spec_l4Set_b
 rw [everyE (n := l.length) (fun j => decide (0 <= l.getD j 0 /\ l.getD j 0 <= (d.2.length : Int) - 1) && (decide (j = 0) || decide (l.getD (j - 1) 0 < l.getD j 0))) (some false) (some true) (fun k i => spec_l4Set_l0 N k l d.1 d.2 i)
  (fun k => by simp [spec_l4Set_l0, spec_l4Set_l0_b]) (fun k j hj => ?_) (by omega)]
 ·unfold validSet
  split
  ·rename_i h4; rw [decide_eq_true h4]
  ·rename_i h4; rw [decide_eq_false h4]
 ·have h1 : (j : Int) < (l.length : Int) := by omega
  simp only [spec_l4Set_l0, spec_l4Set_l0_b, h1, decide_true, cond_true, inb_lt hj, grd_true, at_lt hj, l1In, Option.bind_some, getD_lt hj, w64_succ (j := j) (by omega), w64_id (show -9223372036854775808 <= (d.2.length : Int) - 1 by omega) (by omega)]
  cases decide (0 <= l[j] /\ l[j] <= (d.2.length : Int) - 1) with
  | false => rfl
  | true =>
   simp only [Bool.not_true, cond_false, Bool.true_and]
   by_cases h0 : j = 0
   ·subst h0; simp
   ·have h3 : (j : Int) > 0 := by omega
    have h4 : j - 1 < l.length := by omega
    simp only [h3, decide_true, cond_true, w64_pred (show 0 < j by omega) (by omega), inb_lt h4, grd_true, at_lt h4, h0, decide_false, Bool.false_or, getD_lt h4]
    by_cases h5 : l[j - 1] < l[j]
    ·have : ¬ l[j] <= l[j - 1] := by omega
     simp [h5, this]
    ·have : l[j] <= l[j - 1] := by omega
     simp [h5, this]
theorem implSet {n : Nat} {l : List Int} (hn : n <= 1048576) (hl : l.length <= 1048576) (hN : 1048576 < N) : impl_areIndices N l (n : Int) = some (validSet n l) := by
 unfold impl_areIndices impl_areIndices_b
 rw [everyE (n := l.length) (fun j => decide (0 <= l.getD j 0 /\ l.getD j 0 <= (n : Int) - 1) && (decide (j = 0) || decide (l.getD (j - 1) 0 < l.getD j 0))) (some false) (some true) (fun k i => impl_areIndices_l0 N k l (n : Int) l (l.length : Int) i)
  (fun k => by simp [impl_areIndices_l0, impl_areIndices_l0_b]) (fun k j hj => ?_) (by omega)]
 ·unfold validSet
  split
  ·rename_i h4; rw [decide_eq_true h4]
  ·rename_i h4; rw [decide_eq_false h4]
 ·have h1 : (j : Int) < (l.length : Int) := by omega
  simp only [impl_areIndices_l0, impl_areIndices_l0_b, h1, decide_true, cond_true, inb_lt hj, grd_true, at_lt hj, within, Option.bind_some, getD_lt hj, w64_succ (j := j) (by omega), w64_id (show -9223372036854775808 <= (n : Int) - 1 by omega) (by omega)]
  cases decide (0 <= l[j] /\ l[j] <= (n : Int) - 1) with
  | false => rfl
  | true =>
   simp only [Bool.not_true, cond_false, Bool.true_and]
   by_cases h0 : j = 0
   ·subst h0; simp
   ·have h3 : (j : Int) > 0 := by omega
    have h4 : j - 1 < l.length := by omega
    simp only [h3, decide_true, cond_true, w64_pred (show 0 < j by omega) (by omega), inb_lt h4, grd_true, at_lt h4, h0, decide_false, Bool.false_or, getD_lt h4]
    by_cases h5 : l[j - 1] < l[j]
    ·have : ¬ l[j - 1] >= l[j] := by omega
     simp [h5, this]
    ·have : l[j - 1] >= l[j] := by omega
     simp [h5, this]
def toI (l : List Nat) : List Int := l.map fun (n : Nat) => (n : Int)
theorem toI_length (l : List Nat) : (toI l).length = l.length := by simp [toI]
theorem toI_append (a b : List Nat) : toI (a ++ b) = toI a ++ toI b := by simp [toI]
theorem blk_length (S : Nat -> Nat -> Bool) (n s : Nat) : (blk S n s).length <= n := by
 unfold blk
 exact Nat.le_trans (List.length_filter_le _ _) (Nat.le_of_eq List.length_range)
theorem sts_length (S : Nat -> Nat -> Bool) (n : Nat) : (sts S n).length <= n := by
 unfold sts
 exact Nat.le_trans (List.length_filter_le _ _) (Nat.le_of_eq List.length_range)
theorem fact_at {d : Db} {k : Nat} (hk : k < d.2.length) : at_ (0, []) d.2 (k : Int) = factAt d k := by unfold factAt; rw [at_lt hk, getD_lt hk]
theorem fact_small {d : Db} (h : SmallDb d) {k : Nat} (hk : k < d.2.length) : (factAt d k).2.length <= 1048576 := by unfold factAt; rw [getD_lt hk]; exact h.vals _ (List.getElem_mem hk)
theorem specBlockOf {d : Db} (h : SmallDb d) (hvb : validDb d = true) (hN : 1048576 < N) {i : Nat} (hi : i < d.2.length) : spec_BlockOf N d (i : Int) = some (toI (blk (sameD d) d.2.length i)) := by
 have hv := validDb_of hvb
 have hf := hv.few
 unfold spec_BlockOf spec_BlockOf_b
 have := loop (fun k (s : List Int × Nat) => spec_BlockOf_l0 N k (i : Int) d.1 d.2 s.1 (s.2 : Int)) (fun s => s.2 <= d.2.length /\ s.1 = toI (blk (sameD d) s.2 i)) (fun s => d.2.length - s.2) (fun o => o = some (toI (blk (sameD d) d.2.length i))) (fun k s hs => by
  obtain ⟨out, j⟩ := s
  obtain ⟨h1, h2⟩ := hs
  simp only at h1 h2 ⊢
  by_cases hj : j < d.2.length
  ·right
   have e1 : (j : Int) < (d.2.length : Int) := by omega
   have e2 : (0 : Int) <= (i : Int) /\ (i : Int) <= (d.2.length : Int) - 1 := by omega
   have e3 : validDb (d.1, d.2) = true := hvb
   have hlen : out.length <= 14 := by rw [h2, toI_length]; have := blk_length (sameD d) j i; omega
   refine ⟨(toI (blk (sameD d) (j + 1) i), j + 1), ⟨hj, rfl⟩, by simp only; omega, ?_⟩
   simp only [spec_BlockOf_l0, spec_BlockOf_l0_b, e1, decide_true, cond_true, specDb (d := (d.1, d.2)) h hN, e3, Option.bind_some, l1In, w64_id (show -9223372036854775808 <= (d.2.length : Int) - 1 by omega) (by omega), e2, and_self, inb_lt hi, inb_lt hj, grd_true, fact_at hi, fact_at hj,
    specSame h.rels (fact_small h hi) (fact_small h hj) hN hv.rels (hv.fact i hi) (hv.fact j hj), w64_succ (j := j) (by omega)]
   rw [blk_succ]
   cases hs : sameD d i j with
   | true =>
    have hs' : sameK d.1 (factAt d i) (factAt d j) = true := hs
    rw [hs', cond_true, appOk_lt (by omega) (by simp only [List.length_singleton]; omega), grd_true, if_pos rfl, toI_append, h2]; rfl
   | false =>
    have hs' : sameK d.1 (factAt d i) (factAt d j) = false := hs
    rw [hs', cond_false, if_neg (by simp), List.append_nil, h2]
  ·left
   have : j = d.2.length := by omega
   subst this
   have e1 : ¬ (d.2.length : Int) < (d.2.length : Int) := by omega
   simp only [spec_BlockOf_l0, spec_BlockOf_l0_b, e1, decide_false, cond_false, h2]) N ([], 0) (by simp only; omega) ⟨by simp, by simp [blk, toI]⟩
 exact this
def blocksOf (d : Db) : List (List Int) := if validDb d then (B (sameD d) d.2.length).map toI else []
theorem specBlocks {d : Db} (h : SmallDb d) (hN : 1048576 < N) : spec_Blocks N d = some (blocksOf d) := by
 have hfs := h.facts
 unfold spec_Blocks spec_Blocks_b blocksOf
 cases hvb : validDb d with
 | false =>
  simp only [Bool.false_eq_true, if_false]
  obtain ⟨n, rfl⟩ : ∃ n, N = n + 1 := ⟨N - 1, by omega⟩
  simp only [spec_Blocks_l0, spec_Blocks_l0_b, specDb (d := (d.1, d.2)) h hN, show validDb (d.1, d.2) = false from hvb, Option.bind_some, cond_false]
  cases decide ((0 : Int) < (d.2.length : Int)) <;> rfl
 | true =>
  simp only [if_true]
  have hv := validDb_of hvb
  have hf := hv.few
  have hR := runs hv
  have := loop (fun k (s : List (List Int) × Nat) => spec_Blocks_l0 N k d.1 d.2 s.1 (s.2 : Int)) (fun s => s.2 <= d.2.length /\ s.1 = (((sts (sameD d) s.2).map (blk (sameD d) d.2.length)).map toI)) (fun s => d.2.length - s.2) (fun o => o = some ((B (sameD d) d.2.length).map toI)) (fun k s hs => by
   obtain ⟨out, j⟩ := s
   obtain ⟨h1, h2⟩ := hs
   simp only at h1 h2 ⊢
   by_cases hj : j < d.2.length
   ·right
    have e1 : (j : Int) < (d.2.length : Int) := by omega
    have e3 : validDb (d.1, d.2) = true := hvb
    have hlen : out.length <= 14 := by rw [h2, List.length_map, List.length_map]; have := sts_length (sameD d) j; omega
    obtain ⟨q, r, b1, b2, b3⟩ := blk_head (hR.refl j) hj
    have e4 : toI (blk (sameD d) d.2.length j) = (q : Int) :: toI r := by rw [b1]; rfl
    have e5 : inb 0 (toI (blk (sameD d) d.2.length j)) = true := by rw [e4]; exact inb_lt (j := 0) (by simp)
    have e6 : at_ 0 (toI (blk (sameD d) d.2.length j)) 0 = (q : Int) := by rw [e4]; exact at_lt (j := 0) (by simp)
    refine ⟨((((sts (sameD d) (j + 1)).map (blk (sameD d) d.2.length)).map toI), j + 1), ⟨hj, rfl⟩, by simp only; omega, ?_⟩
    simp only [spec_Blocks_l0, spec_Blocks_l0_b, e1, decide_true, cond_true, specDb (d := (d.1, d.2)) h hN, e3, Option.bind_some, specBlockOf (d := (d.1, d.2)) h hvb hN (show j < (d.1, d.2).2.length from hj), w64_succ (j := j) (by omega)]
    rw [show sameD (d.1, d.2) = sameD d from rfl, e5, grd_true, e6, beqI, sts_succ]
    by_cases hst : isSt (sameD d) j = true
    ·have hq := b3.2 hst
     rw [if_pos hst, decide_eq_true (by rw [hq]), cond_true, appOk_lt (by omega) (by simp only [List.length_singleton]; omega), grd_true, List.map_append, List.map_append, <- h2]; rfl
    ·have hq : ¬ (q : Int) = (j : Int) := fun hc => hst (b3.1 (by omega))
     rw [if_neg hst, decide_eq_false hq, cond_false, List.append_nil, <- h2]
   ·left
    have : j = d.2.length := by omega
    subst this
    have e1 : ¬ (d.2.length : Int) < (d.2.length : Int) := by omega
    simp only [spec_Blocks_l0, spec_Blocks_l0_b, e1, decide_false, cond_false, h2]
    rfl) N ([], 0) (by simp only; omega) ⟨by simp, by simp [sts]⟩
  exact this
def one (p : Int -> Bool) (x : Int) : Int := if p x then 1 else 0
theorem validRel_ar {r : Rel} (h : validRel r = true) : 1 <= r.2.1 /\ r.2.1 <= 3 := by
 unfold validRel spec_IsValidRelation at h
 by_cases h1 : r.1.size = 1
 ·have hb : ∃ b, byteAt r.1 0 = some b := by
   unfold byteAt
   have : (0 : Int).toNat < r.1.size := by omega
   exact ⟨r.1[(0 : Int).toNat], by rw [if_pos (by omega), getElem?_pos]⟩
  obtain ⟨b, hb⟩ := hb
  rw [hb] at h
  simp only [Option.bind_some, l1In] at h
  by_cases h2 : 1 <= r.2.1 /\ r.2.1 <= 3
  ·exact h2
  ·rw [decide_eq_false h2] at h
   exfalso
   revert h
   cases ((r.1.size : Int) == 1) <;> cases decide ((b.toNat : Int) >= 97) <;> cases decide ((b.toNat : Int) <= 122) <;> simp
 ·have h0 : ((r.1.size : Int) == 1) = false := by rw [beqI]; simp; omega
  rw [h0] at h
  simp at h
abbrev Atm := Int × List Int
abbrev Qry := Int × List Atm × List Int
def arity (l : List Rel) (r : Int) : Int := (l.getD r.toNat (⟨#[]⟩, 0, 0)).2.1
def termsOk (n : Nat) (ts : List Int) : Bool := ts.all fun t => decide (-10 <= t /\ t <= (n : Int) - 1)
def atomAt (as : List Atm) (j : Nat) : Atm := as.getD j (0, [])
def newRel (as : List Atm) (j : Nat) : Bool := !((as.take j).any fun b => decide (b.1 = (atomAt as j).1))
def atomOk (l : List Rel) (n : Nat) (as : List Atm) (j : Nat) : Bool := decide (0 <= (atomAt as j).1 /\ (atomAt as j).1 <= (l.length : Int) - 1) && (decide (((atomAt as j).2.length : Int) = arity l (atomAt as j).1) && (newRel as j && termsOk n (atomAt as j).2))
def occB (as : List Atm) (v : Int) : Bool := as.any fun a => decide (v ∈ a.2)
def allOcc (n : Nat) (as : List Atm) : Bool := decide (∀ v, v < n -> occB as (v : Int) = true)
def atomsOk (l : List Rel) (n : Nat) (as : List Atm) : Bool := decide (∀ j, j < as.length -> atomOk l n as j = true)
def validQ (l : List Rel) (q : Qry) : Bool := validRels l && (decide (0 <= q.1 /\ q.1 <= 4) && (decide (1 <= (q.2.1.length : Int) /\ (q.2.1.length : Int) <= 3) && (atomsOk l q.1.toNat q.2.1 && (allOcc q.1.toNat q.2.1 && validSet q.1.toNat q.2.2))))
theorem arity_le {l : List Rel} {r : Int} (hv : validRels l = true) (h : 0 <= r /\ r <= (l.length : Int) - 1) : 1 <= arity l r /\ arity l r <= 3 := validRel_ar (validRels_at hv (j := r.toNat) (by omega))
def metL (f : Nat -> Bool) : List Bool := [f 0, f 1, f 2, f 3]
theorem metL_at {f : Nat -> Bool} {v : Nat} (h : v < 4) : inb (v : Int) (metL f) = true /\ at_ false (metL f) (v : Int) = f v := by
 have hl : v < (metL f).length := h
 refine ⟨inb_lt hl, ?_⟩
 rw [at_lt hl]
 match v, h with
 | 0, _ => rfl
 | 1, _ => rfl
 | 2, _ => rfl
 | 3, _ => rfl
theorem metL_set {f : Nat -> Bool} {t : Nat} (h : t < 4) : (metL f).set t true = metL fun v => f v || decide (v = t) := by
 match t, h with
 | 0, _ => simp [metL]
 | 1, _ => simp [metL]
 | 2, _ => simp [metL]
 | 3, _ => simp [metL]
theorem metL_congr {f g : Nat -> Bool} (h : ∀ v, f v = g v) : metL f = metL g := by
 unfold metL
 rw [h 0, h 1, h 2, h 3]
theorem specTerms {N n : Nat} {l : List Rel} {as : List Atm} {fr : List Int} {j : Nat} {a : Int} {ts : List Int} (hn : n <= 4) (hts : ts.length <= 3) (hN : 1048576 < N) (R : List Rel -> Int -> List Atm -> List Int -> List Bool -> Int -> Option Bool) (f : Nat -> Bool) :
  spec_IsValidQuery_l2 R N N l (n : Int) as fr (metL f) (j : Int) a ts 0 = if termsOk n ts then R l (n : Int) as fr (metL fun v => f v || decide ((v : Int) ∈ ts)) (w64 ((j : Int) + 1)) else some false := by
 have := loop (fun k (q : Nat) => spec_IsValidQuery_l2 R N k l (n : Int) as fr (metL fun v => f v || decide ((v : Int) ∈ ts.take q)) (j : Int) a ts (q : Int)) (fun q => q <= ts.length /\ termsOk n (ts.take q) = true) (fun q => ts.length - q) (fun o => o = if termsOk n ts then R l (n : Int) as fr (metL fun v => f v || decide ((v : Int) ∈ ts)) (w64 ((j : Int) + 1)) else some false) (fun k q hs => by
  obtain ⟨hq', hok⟩ := hs
  simp only [spec_IsValidQuery_l2, spec_IsValidQuery_l2_b]
  by_cases hq : q < ts.length
  ·have e1 : (q : Int) < (ts.length : Int) := by omega
   simp only [e1, decide_true, cond_true, inb_lt hq, grd_true, at_lt hq, l1In, Option.bind_some, w64_id (x := (n : Int) - 1) (by omega) (by omega), w64_succ (j := q) (by omega)]
   by_cases ht : -10 <= ts[q] /\ ts[q] <= (n : Int) - 1
   ·right
    have hok2 : termsOk n (ts.take (q + 1)) = true := by
     unfold termsOk at *
     rw [List.take_succ_eq_append_getElem hq, List.all_append, hok]
     simp [ht]
    refine ⟨q + 1, ⟨hq, hok2⟩, by omega, ?_⟩
    rw [decide_eq_true ht, Bool.not_true, cond_false]
    by_cases h0 : ts[q] >= 0
    ·obtain ⟨t, e⟩ : ∃ t : Nat, ts[q] = (t : Int) := ⟨ts[q].toNat, by omega⟩
     have ht4 : t < 4 := by omega
     rw [decide_eq_true h0, cond_true, e, (metL_at ht4).1, grd_true, grd_true, letv_eq, Int.toNat_natCast, metL_set ht4]
     congr 1
     refine metL_congr fun v => ?_
     rw [List.take_succ_eq_append_getElem hq, e]
     have : decide ((v : Int) ∈ ts.take q ++ [(t : Int)]) = (decide ((v : Int) ∈ ts.take q) || decide (v = t)) := by
      rw [Bool.eq_iff_iff]
      simp only [decide_eq_true_eq, Bool.or_eq_true, List.mem_append, List.mem_singleton]
      constructor
      ·rintro (h | h)
       ·exact .inl h
       ·exact .inr (by omega)
      ·rintro (h | h)
       ·exact .inl h
       ·exact .inr (by omega)
     rw [this, Bool.or_assoc]
    ·rw [decide_eq_false h0, cond_false]
     congr 1
     refine metL_congr fun v => ?_
     rw [List.take_succ_eq_append_getElem hq]
     have : decide ((v : Int) ∈ ts.take q ++ [ts[q]]) = decide ((v : Int) ∈ ts.take q) := by
      rw [decide_eq_decide]
      simp only [List.mem_append, List.mem_singleton]
      constructor
      ·rintro (h | h)
       ·exact h
       ·omega
      ·exact .inl
     rw [this]
   ·left
    have : termsOk n ts = false := by
     rw [Bool.eq_false_iff]
     intro h
     unfold termsOk at h
     exact ht (of_decide_eq_true (List.all_eq_true.1 h _ (List.getElem_mem hq)))
    rw [decide_eq_false ht, Bool.not_false, cond_true, this]
    rfl
  ·left
   have : q = ts.length := by omega
   subst this
   rw [List.take_length] at hok
   simp only [Int.lt_irrefl, decide_false, cond_false, List.take_length, hok, if_true]) N 0 (by omega) (by simp [termsOk])
 simpa using this
theorem specNew {N n : Nat} {l : List Rel} {as : List Atm} {fr : List Int} {met : List Bool} {j : Nat} {ts : List Int} (has : as.length <= 3) (hj : j < as.length) (hN : 1048576 < N) (R : List Rel -> Int -> List Atm -> List Int -> List Bool -> Int -> Option Bool) :
  spec_IsValidQuery_l1 R N N l (n : Int) as fr met (j : Int) (atomAt as j).1 ts 0 = if newRel as j then spec_IsValidQuery_l2 R N N l (n : Int) as fr met (j : Int) (atomAt as j).1 ts 0 else some false := by
 have := everyE (n := j) (fun k => !decide ((atomAt as k).1 = (atomAt as j).1)) (some false) (spec_IsValidQuery_l2 R N N l (n : Int) as fr met (j : Int) (atomAt as j).1 ts 0) (fun k i => spec_IsValidQuery_l1 R N k l (n : Int) as fr met (j : Int) (atomAt as j).1 ts i) (fun k => by simp only [spec_IsValidQuery_l1, spec_IsValidQuery_l1_b, Int.lt_irrefl, decide_false, cond_false]) (fun k i hi => by
  have h1 : (i : Int) < (j : Int) := by omega
  have h2 : i < as.length := by omega
  simp only [spec_IsValidQuery_l1, spec_IsValidQuery_l1_b, h1, decide_true, cond_true, inb_lt h2, grd_true, at_lt h2, w64_succ (j := i) (by omega), beqI]
  have e : atomAt as i = as[i] := getD_lt h2
  rw [e]
  by_cases hh : as[i].1 = (atomAt as j).1
  ·simp [hh]
  ·simp [hh]) (k := N) (by omega)
 rw [this]
 have e : newRel as j = decide (∀ i, i < j -> (!decide ((atomAt as i).1 = (atomAt as j).1)) = true) := by
  unfold newRel
  rw [Bool.eq_iff_iff, decide_eq_true_eq, Bool.not_eq_true', List.any_eq_false]
  constructor
  ·intro h i hi
   have hm : atomAt as i ∈ as.take j := by
    rw [show atomAt as i = as[i]'(by omega) from getD_lt (by omega)]
    rw [List.mem_iff_getElem]
    exact ⟨i, by rw [List.length_take]; omega, by rw [List.getElem_take]⟩
   have := h _ hm
   simpa using this
  ·intro h b hb
   obtain ⟨i, hi, rfl⟩ := List.mem_iff_getElem.1 hb
   have hi2 : i < j := by rw [List.length_take] at hi; omega
   rw [List.getElem_take]
   have := h i hi2
   rw [show atomAt as i = as[i]'(by omega) from getD_lt (by omega)] at this
   simpa using this
 rw [e]
 by_cases hh : ∀ i, i < j -> (!decide ((atomAt as i).1 = (atomAt as j).1)) = true
 ·rw [if_pos hh, decide_eq_true hh, if_pos rfl]
 ·rw [if_neg hh, decide_eq_false hh]
  rfl
theorem specEnd {N n : Nat} {as : List Atm} {fr : List Int} {f : Nat -> Bool} (hn : n <= 4) (hfr : fr.length <= 1048576) (hN : 1048576 < N) :
  spec_IsValidQuery_l3 N N (n : Int) as fr (metL f) 0 = some (decide (∀ v, v < n -> f v = true) && validSet n fr) := by
 have h4 : spec_IsValidQuery_l4 N N (n : Int) as fr 0 = some (validSet n fr) := by
  rw [everyE (n := fr.length) (fun j => decide (0 <= fr.getD j 0 /\ fr.getD j 0 <= (n : Int) - 1) && (decide (j = 0) || decide (fr.getD (j - 1) 0 < fr.getD j 0))) (some false) (some true) (fun k i => spec_IsValidQuery_l4 N k (n : Int) as fr i)
   (fun k => by simp [spec_IsValidQuery_l4, spec_IsValidQuery_l4_b]) (fun k j hj => ?_) (by omega)]
  ·unfold validSet
   split
   ·rename_i h4; rw [decide_eq_true h4]
   ·rename_i h4; rw [decide_eq_false h4]
  ·have h1 : (j : Int) < (fr.length : Int) := by omega
   simp only [spec_IsValidQuery_l4, spec_IsValidQuery_l4_b, h1, decide_true, cond_true, inb_lt hj, grd_true, at_lt hj, l1In, Option.bind_some, getD_lt hj, w64_succ (j := j) (by omega), w64_id (show -9223372036854775808 <= (n : Int) - 1 by omega) (by omega)]
   cases decide (0 <= fr[j] /\ fr[j] <= (n : Int) - 1) with
   | false => rfl
   | true =>
    simp only [Bool.not_true, cond_false, Bool.true_and]
    by_cases h0 : j = 0
    ·subst h0; simp
    ·have h3 : (j : Int) > 0 := by omega
     have h4 : j - 1 < fr.length := by omega
     simp only [h3, decide_true, cond_true, w64_pred (show 0 < j by omega) (by omega), inb_lt h4, grd_true, at_lt h4, h0, decide_false, Bool.false_or, getD_lt h4]
     by_cases h5 : fr[j - 1] < fr[j]
     ·have : ¬ fr[j] <= fr[j - 1] := by omega
      simp [h5, this]
     ·have : fr[j] <= fr[j - 1] := by omega
      simp [h5, this]
 rw [everyE (n := n) f (some false) (some (validSet n fr)) (fun k i => spec_IsValidQuery_l3 N k (n : Int) as fr (metL f) i) (fun k => by simp only [spec_IsValidQuery_l3, spec_IsValidQuery_l3_b, Int.lt_irrefl, decide_false, cond_false, h4]) (fun k j hj => ?_) (by omega)]
 ·split
  ·rename_i h; rw [decide_eq_true h, Bool.true_and]
  ·rename_i h; rw [decide_eq_false h, Bool.false_and]
 ·have h1 : (j : Int) < (n : Int) := by omega
  obtain ⟨m1, m2⟩ := metL_at (f := f) (show j < 4 by omega)
  simp only [spec_IsValidQuery_l3, spec_IsValidQuery_l3_b, h1, decide_true, cond_true, m1, grd_true, m2, w64_succ (j := j) (by omega)]
  cases f j <;> simp
theorem occ_take {as : List Atm} {j : Nat} (hj : j < as.length) (v : Int) : occB (as.take (j + 1)) v = (occB (as.take j) v || decide (v ∈ (atomAt as j).2)) := by
 unfold occB
 rw [List.take_succ_eq_append_getElem hj, List.any_append, show atomAt as j = as[j] from getD_lt hj]
 simp
theorem specQuery {l : List Rel} {q : Qry} (hl : l.length <= 1048576) (hq : q.2.2.length <= 1048576) (hN : 1048576 < N) : spec_IsValidQuery N l q = some (validQ l q) := by
 obtain ⟨n, as, fr⟩ := q
 simp only at hq
 unfold spec_IsValidQuery spec_IsValidQuery_b validQ
 rw [specRels hl hN, Option.bind_some, l1In, l1In]
 cases hv : validRels l with
 | false => rfl
 | true =>
  by_cases hn : 0 <= n /\ n <= 4
  ·by_cases ha : 1 <= (as.length : Int) /\ (as.length : Int) <= 3
   ·obtain ⟨n, rfl⟩ : ∃ m : Nat, n = (m : Int) := ⟨n.toNat, by omega⟩
    simp only [Bool.not_true, cond_false, Option.bind_some, decide_eq_true hn, decide_eq_true ha, Bool.true_and, Int.toNat_natCast]
    rw [show makeOk 4 1 = true from rfl, grd_true]
    have hl4 : l.length <= 4 := (of_decide_eq_true hv).2
    have := loop (fun k (j : Nat) => spec_IsValidQuery_l0 N k l (n : Int) as fr (metL fun v => occB (as.take j) (v : Int)) (j : Int)) (fun j => j <= as.length /\ ∀ i, i < j -> atomOk l n as i = true) (fun j => as.length - j) (fun o => o = some (atomsOk l n as && (allOcc n as && validSet n fr))) (fun k j hs => by
     obtain ⟨hj', hok⟩ := hs
     simp only [spec_IsValidQuery_l0, spec_IsValidQuery_l0_b]
     by_cases hj : j < as.length
     ·have e1 : (j : Int) < (as.length : Int) := by omega
      have ea : atomAt as j = as[j] := getD_lt hj
      have bad : atomOk l n as j = false -> some false = some (atomsOk l n as && (allOcc n as && validSet n fr)) := fun h => by
       have : atomsOk l n as = false := by
        unfold atomsOk
        rw [decide_eq_false_iff_not]
        intro hh
        have := hh j hj
        rw [h] at this
        cases this
       rw [this]; rfl
      simp only [e1, decide_true, cond_true, inb_lt hj, grd_true, at_lt hj, l1In, Option.bind_some, w64_id (x := (l.length : Int) - 1) (by omega) (by omega), <- ea]
      by_cases c1 : 0 <= (atomAt as j).1 /\ (atomAt as j).1 <= (l.length : Int) - 1
      ·obtain ⟨ar1, ar2⟩ := arity_le hv c1
       rw [decide_eq_true c1, Bool.not_true, cond_false, inb_int c1.1 (by omega), grd_true, bneI]
       rw [show (at_ (⟨#[]⟩, (0, 0)) l (atomAt as j).1).2.1 = arity l (atomAt as j).1 from rfl]
       by_cases c2 : ((atomAt as j).2.length : Int) = arity l (atomAt as j).1
       ·rw [decide_eq_true c2, Bool.not_true, cond_false, specNew (by omega) hj hN]
        cases c3 : newRel as j with
        | false =>
         left
         exact bad (by unfold atomOk; rw [c3, Bool.false_and, Bool.and_false, Bool.and_false])
        | true =>
         rw [if_pos rfl, specTerms (by omega) (by omega) hN]
         cases c4 : termsOk n (atomAt as j).2 with
         | false =>
          left
          exact bad (by unfold atomOk; rw [c4, Bool.and_false, Bool.and_false, Bool.and_false])
         | true =>
          right
          refine ⟨j + 1, ⟨hj, fun i hi => ?_⟩, by omega, ?_⟩
          ·by_cases e : i = j
           ·subst e
            unfold atomOk
            rw [decide_eq_true c1, decide_eq_true c2, c3, c4]; rfl
           ·exact hok i (by omega)
          ·rw [if_pos rfl, w64_succ (by omega)]
           congr 1
           exact metL_congr fun v => (occ_take hj (v : Int)).symm
       ·left
        rw [decide_eq_false c2, Bool.not_false, cond_true]
        exact bad (by unfold atomOk; rw [decide_eq_false c2, Bool.false_and, Bool.and_false])
      ·left
       rw [decide_eq_false c1, Bool.not_false, cond_true]
       exact bad (by unfold atomOk; rw [decide_eq_false c1, Bool.false_and])
     ·left
      have : j = as.length := by omega
      subst this
      have hao : atomsOk l n as = true := decide_eq_true hok
      simp only [Int.lt_irrefl, decide_false, cond_false, specEnd (show n <= 4 by omega) hq hN, List.take_length, hao, Bool.true_and]
      rfl) N 0 (by omega) ⟨by omega, fun i hi => by omega⟩
    exact this
   ·simp [hn, ha]
  ·simp [hn]
theorem implNew {as : List Atm} {a : Atm} (has : as.length <= 1000) (hN : 1048576 < N) : slices_ContainsFunc_LAtom_Atom_IsValidQuery_c1 N as a = some (as.any fun b => decide (b.1 = a.1)) := by
 unfold slices_ContainsFunc_LAtom_Atom_IsValidQuery_c1 slices_IndexFunc_LAtom_Atom_IsValidQuery_c1 slices_IndexFunc_LAtom_Atom_IsValidQuery_c1_b
 rw [contains_of (d := ((0, []) : Atm)) (xs := as) (p := fun b => decide (b.1 = a.1)) (first (n := as.length) (fun j => decide ((as.getD j (0, [])).1 = a.1)) (fun k i => slices_IndexFunc_LAtom_Atom_IsValidQuery_c1_l0 N k as a (as.length : Int) i) (fun k => by simp [slices_IndexFunc_LAtom_Atom_IsValidQuery_c1_l0, slices_IndexFunc_LAtom_Atom_IsValidQuery_c1_l0_b]) (fun k j hj => ?_) (by omega))]
 have h1 : (j : Int) < (as.length : Int) := by omega
 simp only [slices_IndexFunc_LAtom_Atom_IsValidQuery_c1_l0, slices_IndexFunc_LAtom_Atom_IsValidQuery_c1_l0_b, impl_IsValidQuery_c1, h1, decide_true, cond_true, inb_lt hj, grd_true, at_lt hj, getD_lt hj, Option.bind_some, w64_succ (j := j) (by omega), beqI]
 cases decide (as[j].1 = a.1) <;> rfl
def varsIn (ts : List Int) : List Int := ts.filter fun t => decide (0 <= t /\ t <= 3)
theorem implVars {a : Atm} (ha : a.2.length <= 1000) (hN : 1048576 < N) : impl_AtomVariables N a = some (setOf (varsIn a.2)) := by
 unfold impl_AtomVariables impl_AtomVariables_b varsIn
 have := loop (fun k (q : Nat) => impl_AtomVariables_l0 N k ((a.2.take q).filter fun t => decide (0 <= t /\ t <= 3)) a.2 (a.2.length : Int) (q : Int)) (fun q => q <= a.2.length) (fun q => a.2.length - q) (fun o => o = some (setOf (a.2.filter fun t => decide (0 <= t /\ t <= 3)))) (fun k q hq' => by
  simp only [impl_AtomVariables_l0, impl_AtomVariables_l0_b]
  by_cases hq : q < a.2.length
  ·right
   refine ⟨q + 1, hq, by omega, ?_⟩
   have h1 : (q : Int) < (a.2.length : Int) := by omega
   have hl := List.length_filter_le (fun t => decide (0 <= t /\ t <= 3)) (a.2.take q)
   rw [List.length_take] at hl
   simp only [h1, decide_true, cond_true, inb_lt hq, grd_true, at_lt hq, within, Option.bind_some, w64_succ (j := q) (by omega)]
   rw [List.take_succ_eq_append_getElem hq, List.filter_append]
   by_cases ht : 0 <= a.2[q] /\ a.2[q] <= 3
   ·rw [decide_eq_true ht, cond_true, appOk_lt (by omega) (by simp only [List.length_singleton]; omega), grd_true]
    simp [ht]
   ·rw [decide_eq_false ht, cond_false]
    simp [ht]
  ·left
   have : q = a.2.length := by omega
   subst this
   have hl := List.length_filter_le (fun t => decide (0 <= t /\ t <= 3)) a.2
   simp only [Int.lt_irrefl, decide_false, cond_false, List.take_length]
   rw [unionV (by omega) (by simp) hN, Option.bind_some, List.append_nil]) N 0 (by omega) (by omega)
 simpa using this
def varsOf (as : List Atm) : List Int := ((List.range 4).filter fun (v : Nat) => occB as (v : Int)).map fun (v : Nat) => (v : Int)
theorem varsOf_mem {as : List Atm} {x : Int} : x ∈ varsOf as ↔ (0 <= x /\ x <= 3) /\ occB as x = true := by
 unfold varsOf
 rw [List.mem_map]
 constructor
 ·rintro ⟨v, hv, rfl⟩
  obtain ⟨h1, h2⟩ := List.mem_filter.1 hv
  have := List.mem_range.1 h1
  exact ⟨by omega, h2⟩
 ·rintro ⟨h1, h2⟩
  exact ⟨x.toNat, List.mem_filter.2 ⟨List.mem_range.2 (by omega), by rw [show ((x.toNat : Nat) : Int) = x by omega]; exact h2⟩, by omega⟩
theorem varsOf_sorted (as : List Atm) : (varsOf as).Pairwise (· < ·) := by
 unfold varsOf
 rw [List.pairwise_map]
 exact (List.Pairwise.filter _ List.pairwise_lt_range).imp fun h => by omega
theorem varsOf_len (as : List Atm) : (varsOf as).length <= 4 := by
 unfold varsOf
 rw [List.length_map]
 have := List.length_filter_le (fun v : Nat => occB as (v : Int)) (List.range 4)
 rwa [List.length_range] at this
theorem varsOf_next {as : List Atm} {j : Nat} (hj : j < as.length) : setOf (varsOf (as.take j) ++ setOf (varsIn (atomAt as j).2)) = varsOf (as.take (j + 1)) := by
 refine sorted_ext (setOf_sorted _) (varsOf_sorted _) fun x => ?_
 rw [setOf_mem, List.mem_append, setOf_mem, varsOf_mem, varsOf_mem, occ_take hj]
 unfold varsIn
 rw [List.mem_filter, decide_eq_true_eq, Bool.or_eq_true, decide_eq_true_eq]
 constructor
 ·rintro (⟨h1, h2⟩ | ⟨h1, h2⟩)
  ·exact ⟨h1, .inl h2⟩
  ·exact ⟨h2, .inr h1⟩
 ·rintro ⟨h1, h2 | h2⟩
  ·exact .inl ⟨h1, h2⟩
  ·exact .inr ⟨h2, h1⟩
theorem varsOf_all {n : Nat} {as : List Atm} (hn : n <= 4) (hok : ∀ j, j < as.length -> termsOk n (atomAt as j).2 = true) : decide (((varsOf as).length : Int) = (n : Int)) = allOcc n as := by
 have hlt : ∀ v : Int, occB as v = true -> v <= (n : Int) - 1 := by
  intro v hv
  unfold occB at hv
  obtain ⟨a, ha, hva⟩ := List.any_eq_true.1 hv
  obtain ⟨j, hj, rfl⟩ := List.mem_iff_getElem.1 ha
  have := hok j hj
  rw [show atomAt as j = as[j] from getD_lt hj] at this
  unfold termsOk at this
  exact (of_decide_eq_true (List.all_eq_true.1 this v (of_decide_eq_true hva))).2
 have e : (varsOf as).length = ((List.range n).filter fun (v : Nat) => occB as (v : Int)).length := by
  unfold varsOf
  rw [List.length_map]
  have e4 : List.range 4 = List.range n ++ (List.range (4 - n)).map (n + ·) := by
   rw [<- List.range_add, show n + (4 - n) = 4 by omega]
  rw [e4, List.filter_append, List.length_append]
  have : ((List.range (4 - n)).map (n + ·)).filter (fun v : Nat => occB as (v : Int)) = [] := by
   rw [List.filter_eq_nil_iff]
   intro v hv
   obtain ⟨k, _, rfl⟩ := List.mem_map.1 hv
   intro h
   have := hlt _ h
   omega
  rw [this]; rfl
 rw [e]
 unfold allOcc
 rw [decide_eq_decide]
 have hl := List.length_filter_le (fun v : Nat => occB as (v : Int)) (List.range n)
 rw [List.length_range] at hl
 constructor
 ·intro h v hv
  have h2 : ((List.range n).filter fun v : Nat => occB as (v : Int)).length = (List.range n).length := by rw [List.length_range]; omega
  exact List.length_filter_eq_length_iff.1 h2 v (List.mem_range.2 hv)
 ·intro h
  have h2 : ((List.range n).filter fun v : Nat => occB as (v : Int)).length = (List.range n).length := List.length_filter_eq_length_iff.2 fun v hv => h v (List.mem_range.1 hv)
  rw [h2, List.length_range]
theorem implTerms {N n : Nat} {l : List Rel} {as : List Atm} {fr occ : List Int} {j : Nat} {a : Int} {ts : List Int} (hn : n <= 4) (hts : ts.length <= 3) (ho : occ.length <= 4) (hN : 1048576 < N) (R : List Rel -> Int -> List Atm -> List Int -> List Int -> List Atm -> Int -> Int -> Option Bool) :
  impl_IsValidQuery_l1 R N N l (n : Int) as fr occ a ts as (as.length : Int) (j : Int) ts (ts.length : Int) 0 = if termsOk n ts then R l (n : Int) as fr (setOf (occ ++ setOf (varsIn ts))) as (as.length : Int) (w64 ((j : Int) + 1)) else some false := by
 have hv := implVars (N := N) (a := (a, ts)) (show ts.length <= 1000 by omega) hN
 have hl1 : (varsIn ts).length <= 3 := Nat.le_trans (List.length_filter_le _ _) hts
 have hl2 := setOf_len (varsIn ts)
 have hu := unionV (N := N) (a := occ) (b := setOf (varsIn ts)) (by omega) (by omega) hN
 rw [everyE (n := ts.length) (fun k => decide (-10 <= ts.getD k 0 /\ ts.getD k 0 <= (n : Int) - 1)) (some false) (R l (n : Int) as fr (setOf (occ ++ setOf (varsIn ts))) as (as.length : Int) (w64 ((j : Int) + 1))) (fun k i => impl_IsValidQuery_l1 R N k l (n : Int) as fr occ a ts as (as.length : Int) (j : Int) ts (ts.length : Int) i) (fun k => by
  simp only [impl_IsValidQuery_l1, impl_IsValidQuery_l1_b, Int.lt_irrefl, decide_false, cond_false, hv, hu, Option.bind_some]) (fun k i hi => by
  have h1 : (i : Int) < (ts.length : Int) := by omega
  simp only [impl_IsValidQuery_l1, impl_IsValidQuery_l1_b, h1, decide_true, cond_true, inb_lt hi, grd_true, at_lt hi, within, Option.bind_some, w64_id (x := (n : Int) - 1) (by omega) (by omega), getD_lt hi, w64_succ (j := i) (by omega)]
  cases decide (-10 <= ts[i] /\ ts[i] <= (n : Int) - 1) <;> simp) (by omega)]
 have e : termsOk n ts = decide (∀ k, k < ts.length -> decide (-10 <= ts.getD k 0 /\ ts.getD k 0 <= (n : Int) - 1) = true) := by
  unfold termsOk
  rw [Bool.eq_iff_iff, decide_eq_true_eq]
  exact (all_iff (d := (0 : Int)) (p := fun t => decide (-10 <= t /\ t <= (n : Int) - 1))).symm
 rw [e]
 by_cases h : ∀ k, k < ts.length -> decide (-10 <= ts.getD k 0 /\ ts.getD k 0 <= (n : Int) - 1) = true
 ·rw [if_pos h, decide_eq_true h, if_pos rfl]
 ·rw [if_neg h, decide_eq_false h]; rfl
theorem implQuery {l : List Rel} {q : Qry} (hl : l.length <= 1048576) (hq : q.2.2.length <= 1048576) (hN : 1048576 < N) : impl_IsValidQuery N l q = some (validQ l q) := by
 obtain ⟨n, as, fr⟩ := q
 simp only at hq
 unfold impl_IsValidQuery impl_IsValidQuery_b validQ
 rw [implRels hl hN, Option.bind_some, within, within]
 cases hv : validRels l with
 | false => rfl
 | true =>
  by_cases hn : 0 <= n /\ n <= 4
  ·by_cases ha : 1 <= (as.length : Int) /\ (as.length : Int) <= 3
   ·obtain ⟨n, rfl⟩ : ∃ m : Nat, n = (m : Int) := ⟨n.toNat, by omega⟩
    simp only [Bool.not_true, cond_false, Option.bind_some, decide_eq_true hn, decide_eq_true ha, Bool.true_and, Int.toNat_natCast]
    rw [implSet (by omega) hq hN, Option.bind_some]
    cases hfs : validSet n fr with
    | false => rw [Bool.and_false, Bool.and_false]; rfl
    | true =>
     rw [Bool.not_true, cond_false, Bool.and_true]
     have hl4 : l.length <= 4 := (of_decide_eq_true hv).2
     have := loop (fun k (j : Nat) => impl_IsValidQuery_l0 N k l (n : Int) as fr (varsOf (as.take j)) as (as.length : Int) (j : Int)) (fun j => j <= as.length /\ ∀ i, i < j -> atomOk l n as i = true) (fun j => as.length - j) (fun o => o = some (atomsOk l n as && allOcc n as)) (fun k j hs => by
      obtain ⟨hj', hok⟩ := hs
      simp only [impl_IsValidQuery_l0, impl_IsValidQuery_l0_b]
      by_cases hj : j < as.length
      ·have e1 : (j : Int) < (as.length : Int) := by omega
       have ea : atomAt as j = as[j] := getD_lt hj
       have bad : atomOk l n as j = false -> some false = some (atomsOk l n as && allOcc n as) := fun h => by
        have : atomsOk l n as = false := by
         unfold atomsOk
         rw [decide_eq_false_iff_not]
         intro hh
         have := hh j hj
         rw [h] at this
         cases this
        rw [this]; rfl
       simp only [e1, decide_true, cond_true, inb_lt hj, grd_true, at_lt hj, within, Option.bind_some, w64_id (x := (l.length : Int) - 1) (by omega) (by omega), <- ea]
       by_cases c1 : 0 <= (atomAt as j).1 /\ (atomAt as j).1 <= (l.length : Int) - 1
       ·obtain ⟨ar1, ar2⟩ := arity_le hv c1
        rw [decide_eq_true c1, Bool.not_true, cond_false, inb_int c1.1 (by omega), grd_true, bneI]
        rw [show (at_ (⟨#[]⟩, (0, 0)) l (atomAt as j).1).2.1 = arity l (atomAt as j).1 from rfl]
        by_cases c2 : ((atomAt as j).2.length : Int) = arity l (atomAt as j).1
        ·rw [decide_eq_true c2, Bool.not_true, cond_false, subOk_true (by omega) (by omega) (by omega), grd_true, Int.toNat_natCast, implNew (by rw [List.length_take]; omega) hN, Option.bind_some]
         rw [show ((as.take j).any fun b => decide (b.1 = (atomAt as j).1)) = !newRel as j from by unfold newRel; rw [Bool.not_not]]
         cases c3 : newRel as j with
         | false =>
          left
          exact bad (by unfold atomOk; rw [c3, Bool.false_and, Bool.and_false, Bool.and_false])
         | true =>
          rw [Bool.not_true, cond_false, implTerms (by omega) (by omega) (varsOf_len _) hN]
          cases c4 : termsOk n (atomAt as j).2 with
          | false =>
           left
           exact bad (by unfold atomOk; rw [c4, Bool.and_false, Bool.and_false, Bool.and_false])
          | true =>
           right
           refine ⟨j + 1, ⟨hj, fun i hi => ?_⟩, by omega, ?_⟩
           ·by_cases e : i = j
            ·subst e
             unfold atomOk
             rw [decide_eq_true c1, decide_eq_true c2, c3, c4]; rfl
            ·exact hok i (by omega)
           ·rw [if_pos rfl, w64_succ (by omega), varsOf_next hj]
        ·left
         rw [decide_eq_false c2, Bool.not_false, cond_true]
         exact bad (by unfold atomOk; rw [decide_eq_false c2, Bool.false_and, Bool.and_false])
       ·left
        rw [decide_eq_false c1, Bool.not_false, cond_true]
        exact bad (by unfold atomOk; rw [decide_eq_false c1, Bool.false_and])
      ·left
       have : j = as.length := by omega
       subst this
       have hao : atomsOk l n as = true := decide_eq_true hok
       have ht : ∀ j, j < as.length -> termsOk n (atomAt as j).2 = true := fun j hj => by
        have := hok j hj
        unfold atomOk at this
        simp only [Bool.and_eq_true] at this
        exact this.2.2.2
       simp only [Int.lt_irrefl, decide_false, cond_false, List.take_length, hao, Bool.true_and, beqI]
       rw [varsOf_all (by omega) ht]) N 0 (by omega) ⟨by omega, fun i hi => by omega⟩
     have e0 : varsOf (as.take 0) = [] := by unfold varsOf occB; simp
     simp only [e0] at this
     exact this
   ·simp [hn, ha]
  ·simp [hn]
def queryFor (d : Db) (q : Qry) : Bool := validDb d && validQ d.1 q
theorem specQueryFor {d : Db} {q : Qry} (h : SmallDb d) (hq : q.2.2.length <= 1048576) (hN : 1048576 < N) : spec_IsQueryFor N d q = some (queryFor d q) := by
 unfold spec_IsQueryFor queryFor
 rw [specDb h hN, Option.bind_some]
 cases validDb d with
 | false => rfl
 | true => rw [cond_true, specQuery h.rels hq hN]; rfl
theorem implQueryFor {d : Db} {q : Qry} (h : SmallDb d) (hq : q.2.2.length <= 1048576) (hN : 1048576 < N) : impl_IsQueryFor N d q = some (queryFor d q) := by
 unfold impl_IsQueryFor queryFor
 rw [implDb h hN, Option.bind_some]
 cases validDb d with
 | false => rfl
 | true => rw [cond_true, implQuery h.rels hq hN]; rfl
theorem collectC {β R : Type} {n m B lo : Nat} (piece : Nat -> List β) {f : Nat -> List β -> Int -> Option R} {g : List β -> Option R} (hp : ∀ j, (piece j).length <= m) (hend : ∀ k out, f (k + 1) out (n : Int) = g out)
  (hstep : ∀ k out j, lo <= j -> j < n -> out.length <= B -> f (k + 1) out (j : Int) = f k (out ++ piece j) ((j + 1 : Nat) : Int)) : ∀ {k j : Nat} {out : List β}, n - j < k -> lo <= j -> j <= n -> out.length + (n - j) * m <= B -> f k out (j : Int) = g (out ++ (List.range' j (n - j)).flatMap piece)
 | 0, j, out, hk, hlo, hj, hB => by omega
 | k + 1, j, out, hk, hlo, hj, hB => by
  by_cases h : j < n
  ·have e : n - j = (n - (j + 1)) + 1 := by omega
   rw [e, Nat.add_mul] at hB
   have := hp j
   rw [hstep k out j hlo h (by omega), collectC piece hp hend hstep (by omega) (by omega) (by omega) (by rw [List.length_append]; omega)]
   rw [e, List.range'_succ, List.flatMap_cons, List.append_assoc]
  ·have : j = n := by omega
   subst this
   rw [hend, Nat.sub_self]; simp
abbrev Con := Int × Int × Int × Int × Int × Int × Int
def arOf (d : Db) (r : Int) : Int := (d.1.getD r.toNat (⟨#[]⟩, 0, 0)).2.1
def inR (x a b : Int) : Bool := decide (a <= x /\ x <= b)
def conOk (d : Db) (x : Con) : Bool := inR x.1 0 ((d.1.length : Int) - 1) && (inR x.2.1 0 ((d.1.length : Int) - 1) && (inR x.2.2.1 0 (arOf d x.1 - 1) && (inR x.2.2.2.2.1 0 (arOf d x.1 - 1) && (inR x.2.2.2.1 0 (arOf d x.2.1 - 1) && (inR x.2.2.2.2.2.1 0 (arOf d x.2.1 - 1) && inR x.2.2.2.2.2.2 1 2)))))
theorem inR_true {x a b : Int} (h : inR x a b = true) : a <= x /\ x <= b := by simpa [inR] using h
theorem specCon {d : Db} {x : Con} (h : SmallDb d) (hvb : validDb d = true) (hN : 1048576 < N) : spec_IsValidConstraint N d x = some (conOk d x) := by
 have hr := h.rels
 have hv := validDb_of hvb
 unfold spec_IsValidConstraint conOk
 rw [specDb h hN, hvb, Option.bind_some]
 simp only [Bool.not_true, cond_false, l1In, Option.bind_some]
 rw [w64_id (x := (d.1.length : Int) - 1) (by omega) (by omega)]
 rw [show ∀ a b c : Int, decide (a <= b /\ b <= c) = inR b a c from fun _ _ _ => rfl, show ∀ a b c : Int, decide (a <= b /\ b <= c) = inR b a c from fun _ _ _ => rfl]
 cases h1 : inR x.1 0 ((d.1.length : Int) - 1) with
 | false => rfl
 | true =>
  cases h2 : inR x.2.1 0 ((d.1.length : Int) - 1) with
  | false => rfl
  | true =>
   have i1 := inR_true h1
   have i2 := inR_true h2
   have a1 := validRel_ar (validRels_at hv.rels (j := x.1.toNat) (by omega))
   have a2 := validRel_ar (validRels_at hv.rels (j := x.2.1.toNat) (by omega))
   simp only [Bool.not_true, cond_false, inb_int i1.1 (show x.1 < (d.1.length : Int) by omega), inb_int i2.1 (show x.2.1 < (d.1.length : Int) by omega), grd_true]
   rw [show (at_ (⟨#[]⟩, (0, 0)) d.1 x.1).2.1 = arOf d x.1 from rfl, show (at_ (⟨#[]⟩, (0, 0)) d.1 x.2.1).2.1 = arOf d x.2.1 from rfl]
   have b1 : 1 <= arOf d x.1 /\ arOf d x.1 <= 3 := a1
   have b2 : 1 <= arOf d x.2.1 /\ arOf d x.2.1 <= 3 := a2
   rw [w64_id (x := arOf d x.1 - 1) (by omega) (by omega), w64_id (x := arOf d x.2.1 - 1) (by omega) (by omega)]
   simp only [inR, Bool.true_and]
   cases decide (0 <= x.2.2.1 /\ x.2.2.1 <= arOf d x.1 - 1) <;> cases decide (0 <= x.2.2.2.2.1 /\ x.2.2.2.2.1 <= arOf d x.1 - 1) <;> cases decide (0 <= x.2.2.2.1 /\ x.2.2.2.1 <= arOf d x.2.1 - 1) <;> cases decide (0 <= x.2.2.2.2.2.1 /\ x.2.2.2.2.2.1 <= arOf d x.2.1 - 1) <;> rfl
theorem implCon {d : Db} {x : Con} (h : SmallDb d) (hvb : validDb d = true) (hN : 1048576 < N) : impl_IsValidConstraint N d x = some (conOk d x) := by
 rw [<- specCon h hvb hN]
 unfold impl_IsValidConstraint spec_IsValidConstraint
 rw [specDb h hN, implDb h hN]
 simp only [within, l1In]
def viol (d : Db) (x : Con) (i k : Nat) : Bool := conOk d x && (decide ((factAt d i).1 = x.1) && (decide ((factAt d k).1 = x.2.1) && (decide (at_ 0 (factAt d i).2 x.2.2.1 = at_ 0 (factAt d k).2 x.2.2.2.1) &&
 (if x.2.2.2.2.2.2 = 1 then decide (at_ 0 (factAt d i).2 x.2.2.2.2.1 = at_ 0 (factAt d k).2 x.2.2.2.2.2.1) else decide (at_ 0 (factAt d i).2 x.2.2.2.2.1 < at_ 0 (factAt d k).2 x.2.2.2.2.2.1)))))
theorem conCols {d : Db} (hv : ValidDb d) {x : Con} (hc : conOk d x = true) {i k : Nat} (hi : i < d.2.length) (hk : k < d.2.length) (h1 : (factAt d i).1 = x.1) (h2 : (factAt d k).1 = x.2.1) :
  inb x.2.2.1 (factAt d i).2 = true /\ inb x.2.2.2.2.1 (factAt d i).2 = true /\ inb x.2.2.2.1 (factAt d k).2 = true /\ inb x.2.2.2.2.2.1 (factAt d k).2 = true /\ (x.2.2.2.2.2.2 = 1 \/ x.2.2.2.2.2.2 = 2) := by
 unfold conOk at hc
 simp only [Bool.and_eq_true] at hc
 obtain ⟨_, _, c3, c4, c5, c6, c7⟩ := hc
 have i3 := inR_true c3
 have i4 := inR_true c4
 have i5 := inR_true c5
 have i6 := inR_true c6
 have i7 := inR_true c7
 have l1 := (goodFact hv.rels (hv.fact i hi)).len
 have l2 := (goodFact hv.rels (hv.fact k hk)).len
 rw [h1] at l1
 rw [h2] at l2
 have l1 : ((factAt d i).2.length : Int) = arOf d x.1 := l1
 have l2 : ((factAt d k).2.length : Int) = arOf d x.2.1 := l2
 exact ⟨inb_int i3.1 (by omega), inb_int i4.1 (by omega), inb_int i5.1 (by omega), inb_int i6.1 (by omega), by omega⟩
theorem specViol {d : Db} {x : Con} (h : SmallDb d) (hvb : validDb d = true) (hN : 1048576 < N) {i k : Nat} (hi : i < d.2.length) (hk : k < d.2.length) (hne : i ≠ k) : spec_ViolatesConstraint N d x i k = some (viol d x i k) := by
 have hf := h.facts
 have hv := validDb_of hvb
 unfold spec_ViolatesConstraint viol
 rw [specCon h hvb hN, Option.bind_some]
 cases hc : conOk d x with
 | false => rfl
 | true =>
  have e1 : (0 : Int) <= (i : Int) /\ (i : Int) <= (d.2.length : Int) - 1 := by omega
  have e2 : (0 : Int) <= (k : Int) /\ (k : Int) <= (d.2.length : Int) - 1 := by omega
  have e3 : ((i : Int) == (k : Int)) = false := by rw [beqI]; exact decide_eq_false (by omega)
  simp only [Bool.not_true, cond_false, l1In, Option.bind_some, Bool.true_and]
  rw [w64_id (x := (d.2.length : Int) - 1) (by omega) (by omega), decide_eq_true e1, decide_eq_true e2, e3]
  simp only [Bool.not_true, cond_false, inb_lt hi, inb_lt hk, grd_true, fact_at hi, fact_at hk, bneI]
  by_cases h1 : (factAt d i).1 = x.1
  ·by_cases h2 : (factAt d k).1 = x.2.1
   ·obtain ⟨k1, k2, k3, k4, k5⟩ := conCols hv hc hi hk h1 h2
    simp only [h1, h2, decide_true, Bool.not_true, cond_false, k1, k2, k3, k4, grd_true, Bool.true_and]
    by_cases h3 : at_ 0 (factAt d i).2 x.2.2.1 = at_ 0 (factAt d k).2 x.2.2.2.1
    ·simp only [h3, decide_true, Bool.not_true, cond_false, Bool.true_and]
     by_cases h4 : x.2.2.2.2.2.2 = 1
     ·simp only [h4, if_true, beqI, decide_true, cond_true]
     ·simp only [h4, if_false, beqI, decide_false, cond_false]
    ·simp only [h3, decide_false, Bool.not_false, cond_true, Bool.false_and]
   ·simp only [h1, h2, decide_true, decide_false, Bool.not_true, Bool.not_false, cond_false, cond_true, Bool.false_and, Bool.true_and]
  ·simp only [h1, decide_false, Bool.not_false, cond_true, Bool.false_and]
theorem implViol {d : Db} {x : Con} (h : SmallDb d) (hvb : validDb d = true) (hN : 1048576 < N) {i k : Nat} (hi : i < d.2.length) (hk : k < d.2.length) (hne : i ≠ k) : impl_ViolatesConstraint N d x i k = some (viol d x i k) := by
 have hf := h.facts
 have hv := validDb_of hvb
 unfold impl_ViolatesConstraint viol
 rw [implCon h hvb hN, Option.bind_some]
 cases hc : conOk d x with
 | false => rfl
 | true =>
  have e1 : (0 : Int) <= (i : Int) /\ (i : Int) <= (d.2.length : Int) - 1 := by omega
  have e2 : (0 : Int) <= (k : Int) /\ (k : Int) <= (d.2.length : Int) - 1 := by omega
  have e3 : ((i : Int) != (k : Int)) = true := by rw [bneI, decide_eq_false (by omega)]; rfl
  simp only [cond_true, within, Option.bind_some, Bool.true_and, e3]
  rw [w64_id (x := (d.2.length : Int) - 1) (by omega) (by omega), decide_eq_true e1, decide_eq_true e2]
  simp only [cond_true, inb_lt hi, inb_lt hk, grd_true, fact_at hi, fact_at hk]
  have bb : ∀ o : Option Bool, (o.bind fun r4 => some r4) = o := fun o => by cases o <;> rfl
  rw [bb]
  unfold impl_violates
  simp only [bneI]
  by_cases h1 : (factAt d i).1 = x.1
  ·by_cases h2 : (factAt d k).1 = x.2.1
   ·obtain ⟨k1, k2, k3, k4, k5⟩ := conCols hv hc hi hk h1 h2
    simp only [h1, h2, decide_true, Bool.not_true, cond_false, k1, k2, k3, k4, grd_true, Bool.true_and]
    by_cases h3 : at_ 0 (factAt d i).2 x.2.2.1 = at_ 0 (factAt d k).2 x.2.2.2.1
    ·simp only [h3, decide_true, Bool.not_true, cond_false, Bool.true_and]
     rcases k5 with k5 | k5
     ·simp only [k5, if_true, beqI, decide_true, cond_true]
      by_cases h5 : at_ 0 (factAt d i).2 x.2.2.2.2.1 = at_ 0 (factAt d k).2 x.2.2.2.2.2.1
      ·simp [h5]
      ·simp [h5]
     ·simp [k5, beqI]
    ·simp only [h3, decide_false, Bool.not_false, cond_true, Bool.false_and]
   ·simp only [h1, h2, decide_true, decide_false, Bool.not_true, Bool.not_false, cond_false, cond_true, Bool.false_and, Bool.true_and]
  ·simp only [h1, decide_false, Bool.not_false, cond_true, Bool.false_and]
theorem any_contains (s : List Int) (v : Int) : (s.any fun x => decide (v = x)) = decide (v ∈ s) := by
 induction s with
 | nil => rfl
 | cons x s ih => simp only [List.any_cons, ih, List.mem_cons, Bool.decide_or]
theorem implHas {s : List Int} {v : Int} (hs : s.length <= 1048576) (hN : 1048576 < N) : slices_Contains_Lint_int N s v = some (decide (v ∈ s)) := by
 unfold slices_Contains_Lint_int slices_Index_Lint_int slices_Index_Lint_int_b
 rw [contains_of (d := (0 : Int)) (xs := s) (p := fun x => decide (v = x)) (first (n := s.length) (fun j => decide (v = s.getD j 0)) (fun k i => slices_Index_Lint_int_l0 N k s v (s.length : Int) i) (fun k => by simp [slices_Index_Lint_int_l0, slices_Index_Lint_int_l0_b]) (fun k j hj => ?_) (by omega)), any_contains]
 have h1 : (j : Int) < (s.length : Int) := by omega
 simp only [slices_Index_Lint_int_l0, slices_Index_Lint_int_l0_b, h1, decide_true, cond_true, inb_lt hj, grd_true, at_lt hj, getD_lt hj, w64_succ (j := j) (by omega), beqI]
 cases decide (v = s[j]) <;> rfl
theorem specHas {s : List Int} {v : Int} (hs : s.length <= 1048576) (hN : 1048576 < N) : spec_l7Has N s v = some (decide (v ∈ s)) := by
 unfold spec_l7Has spec_l7Has_b
 rw [everyE (n := s.length) (fun j => !decide (s.getD j 0 = v)) (some true) (some false) (fun k i => spec_l7Has_l0 N k s v i) (fun k => by simp [spec_l7Has_l0, spec_l7Has_l0_b]) (fun k j hj => ?_) (by omega)]
 ·by_cases h : v ∈ s
  ·rw [decide_eq_true h]
   obtain ⟨j, hj, rfl⟩ := List.mem_iff_getElem.1 h
   rw [if_neg (fun h' => by have := h' j hj; rw [getD_lt hj] at this; simp at this)]
  ·rw [decide_eq_false h, if_pos (fun j hj => by
    rw [getD_lt hj]
    have : ¬ s[j] = v := fun e => h (e ▸ List.getElem_mem hj)
    simp [this])]
 ·have h1 : (j : Int) < (s.length : Int) := by omega
  simp only [spec_l7Has_l0, spec_l7Has_l0_b, h1, decide_true, cond_true, inb_lt hj, grd_true, at_lt hj, getD_lt hj, w64_succ (j := j) (by omega), beqI]
  cases decide (s[j] = v) <;> simp
structure Good (n : Int) (c : List Int) : Prop where
 lit : ∀ x ∈ c, x ≠ 0 /\ -n <= x /\ x <= n
 one : c.Pairwise fun x y => x ≠ y /\ x ≠ -y
theorem nodup_le : ∀ (n : Nat) (l : List Nat), l.Nodup -> (∀ x ∈ l, 1 <= x /\ x <= n) -> l.length <= n
 | 0, l, _, h => by
  cases l with
  | nil => simp
  | cons x l => have := h x (by simp); omega
 | n + 1, l, hn, h => by
  have := nodup_le n (l.erase (n + 1)) (hn.erase _) (fun x hx => by
   have h1 := (hn.mem_erase_iff).1 hx
   have := h x h1.2
   have := h1.1
   omega)
  rw [List.length_erase] at this
  split at this <;> omega
theorem Good.few {n : Int} {c : List Int} (h0 : 0 <= n) (h : Good n c) : (c.length : Int) <= n := by
 have := nodup_le n.toNat (c.map Int.natAbs) (by
  unfold List.Nodup
  rw [List.pairwise_map]
  exact h.one.imp (fun {x y} hxy e => by omega)) (fun x hx => by
  obtain ⟨y, hy, rfl⟩ := List.mem_map.1 hx
  have := h.lit y hy
  omega)
 rw [List.length_map] at this
 omega
theorem smallOf {d : Db} (h : b_Database d) : SmallDb d := ⟨h.1.1, h.2.1, fun f hf => h.2.2 f hf⟩
def vany (d : Db) (l : List Con) (i k : Nat) : Bool := l.any fun x => viol d x i k || viol d x k i
def edge (d : Db) (l : List Con) (i k : Nat) : Bool := sameD d i k || vany d l i k
def edgeP (d : Db) (l : List Con) (i k : Nat) : List (Int × Int) := if edge d l i k then [((i : Int), (k : Int))] else []
def edgeR (d : Db) (l : List Con) (i : Nat) : List (Int × Int) := (List.range' (i + 1) (d.2.length - (i + 1))).flatMap (edgeP d l i)
def edgesOf (d : Db) (l : List Con) : List (Int × Int) := (List.range d.2.length).flatMap (edgeR d l)
theorem edgeP_len (d : Db) (l : List Con) (i k : Nat) : (edgeP d l i k).length <= 1 := by unfold edgeP; split <;> simp
theorem range'_flatMap_len {β : Type} {piece : Nat -> List β} {m : Nat} (h : ∀ k, (piece k).length <= m) (s n : Nat) : ((List.range' s n).flatMap piece).length <= n * m := by
 have := flatMap_len (piece := piece) (n := m) (a := List.range' s n) (fun x _ => h x)
 simpa using this
theorem edgeR_len {d : Db} (hv : ValidDb d) (l : List Con) (i : Nat) : (edgeR d l i).length <= 14 := by
 have := range'_flatMap_len (edgeP_len d l i) (i + 1) (d.2.length - (i + 1))
 have := hv.few
 unfold edgeR; omega
theorem edges_len {d : Db} (hv : ValidDb d) (l : List Con) : (edgesOf d l).length <= 196 := by
 have := flatMap_len (piece := edgeR d l) (n := 14) (a := List.range d.2.length) (fun x _ => edgeR_len hv l x)
 have := hv.few
 simp only [List.length_range] at *
 unfold edgesOf
 omega
theorem any_drop {α : Type} {l : List α} {p : α -> Bool} {j : Nat} (h : j < l.length) : (l.drop j).any p = (p l[j] || (l.drop (j + 1)).any p) := by rw [List.drop_eq_getElem_cons h, List.any_cons]
theorem factAt_mem {d : Db} {k : Nat} (hk : k < d.2.length) : factAt d k ∈ d.2 := by unfold factAt; rw [getD_lt hk]; exact List.getElem_mem hk
theorem specEdge2 {N : Nat} {d : Db} {l : List Con} (h : SmallDb d) (hl : l.length <= 1048576) (hvb : validDb d = true) (hN : 1048576 < N) {i k : Nat} (hik : i < k) (hk : k < d.2.length) (Rc : List Con -> List Rel -> List Fact -> List (Int × Int) -> Int -> Int -> Option (List (Int × Int))) {out : List (Int × Int)} (ho : out.length <= 1000) :
  ∀ {f j : Nat} {is_ : Bool}, l.length - j < f -> j <= l.length -> spec_ConflictEdges_l2 Rc N f l d.1 d.2 out i k is_ (j : Int) = Rc l d.1 d.2 (out ++ (if is_ || (l.drop j).any (fun x => viol d x i k || viol d x k i) then [((i : Int), (k : Int))] else [])) i ((k + 1 : Nat) : Int)
 | 0, j, is_, hf, hj => by omega
 | f + 1, j, is_, hf, hj => by
  have few := (validDb_of hvb).few
  by_cases hlt : j < l.length
  ·have h1 : (j : Int) < (l.length : Int) := by omega
   simp only [spec_ConflictEdges_l2, spec_ConflictEdges_l2_b, h1, decide_true, cond_true, w64_succ (j := j) (by omega), inb_lt hlt, grd_true, at_lt hlt]
   rw [any_drop hlt]
   cases is_ with
   | true =>
    rw [cond_true, specEdge2 h hl hvb hN hik hk Rc ho (by omega) (by omega)]
    simp
   | false =>
    have v1 := specViol (x := l[j]) h hvb hN (i := i) (k := k) (by omega) hk (by omega)
    have v2 := specViol (x := l[j]) h hvb hN (i := k) (k := i) hk (by omega) (by omega)
    rw [cond_false]
    erw [v1]
    rw [Option.bind_some]
    cases hv1 : viol d l[j] i k with
    | true =>
     rw [cond_true, specEdge2 h hl hvb hN hik hk Rc ho (by omega) (by omega)]
     simp
    | false =>
     rw [cond_false]
     erw [v2]
     rw [Option.bind_some, specEdge2 h hl hvb hN hik hk Rc ho (by omega) (by omega)]
     simp only [Bool.false_or]
  ·have : j = l.length := by omega
   subst this
   have h1 : ¬ (l.length : Int) < (l.length : Int) := by omega
   simp only [spec_ConflictEdges_l2, spec_ConflictEdges_l2_b, h1, decide_false, cond_false, w64_succ (j := k) (by omega), List.drop_length, List.any_nil, Bool.or_false]
   cases is_ with
   | true =>
    have : appOk out [((i : Int), (k : Int))] 16 = true := appOk_of (by simp only [List.length_singleton]; omega)
    rw [cond_true, this, grd_true, if_pos rfl]
   | false => simp
theorem specEdge1 {d : Db} {l : List Con} (h : SmallDb d) (hl : l.length <= 1048576) (hvb : validDb d = true) (hN : 1048576 < N) {i : Nat} (hi : i < d.2.length) (R0 : List Con -> List Rel -> List Fact -> List (Int × Int) -> Int -> Option (List (Int × Int))) {out : List (Int × Int)} (ho : out.length <= 500) :
  spec_ConflictEdges_l1 R0 N N l d.1 d.2 out i ((i + 1 : Nat) : Int) = R0 l d.1 d.2 (out ++ edgeR d l i) ((i + 1 : Nat) : Int) := by
 have few := (validDb_of hvb).few
 have hv := validDb_of hvb
 refine collectC (n := d.2.length) (m := 1) (B := 1000) (edgeP d l i) (f := fun k out j => spec_ConflictEdges_l1 R0 N k l d.1 d.2 out i j) (g := fun out => R0 l d.1 d.2 out ((i + 1 : Nat) : Int)) (edgeP_len d l i) (fun k out => by
  have h1 : ¬ (d.2.length : Int) < (d.2.length : Int) := by omega
  simp only [spec_ConflictEdges_l1, spec_ConflictEdges_l1_b, h1, decide_false, cond_false, w64_succ (j := i) (by omega)]) (lo := i + 1) (fun f out k hik hk hB => ?_) (by omega) (by omega) (by omega) (by omega)
 have hik : i < k := hik
 have h1 : (k : Int) < (d.2.length : Int) := by omega
 simp only [spec_ConflictEdges_l1, spec_ConflictEdges_l1_b, h1, decide_true, cond_true, inb_lt hi, inb_lt hk, grd_true, fact_at hi, fact_at hk]
 rw [specSame h.rels (h.vals _ (factAt_mem hi)) (h.vals _ (factAt_mem hk)) hN hv.rels (hv.fact i hi) (hv.fact k hk), Option.bind_some]
 have := specEdge2 h hl hvb hN hik hk (spec_ConflictEdges_l1 R0 N f) hB (f := N) (j := 0) (is_ := sameK d.1 (factAt d i) (factAt d k)) (by omega) (by omega)
 rw [show ((0 : Nat) : Int) = 0 from rfl] at this
 rw [this, List.drop_zero]
 rfl
theorem specEdges {d : Db} {l : List Con} (h : SmallDb d) (hl : l.length <= 1048576) (hN : 1048576 < N) : spec_ConflictEdges N d l = some (if validDb d then edgesOf d l else []) := by
 have hf := h.facts
 unfold spec_ConflictEdges spec_ConflictEdges_b
 cases hvb : validDb d with
 | false =>
  obtain ⟨n, rfl⟩ : ∃ n, N = n + 1 := ⟨N - 1, by omega⟩
  simp only [spec_ConflictEdges_l0, spec_ConflictEdges_l0_b]
  have := specDb h hN
  rw [hvb] at this
  have this : spec_IsValidDatabase (n + 1) (d.1, d.2) = some false := this
  rw [this]
  by_cases h0 : (0 : Int) < (d.2.length : Int)
  ·rw [decide_eq_true h0]; rfl
  ·rw [decide_eq_false h0]; rfl
 | true =>
  have hv := validDb_of hvb
  have few := hv.few
  rw [if_pos rfl]
  have := collectC (n := d.2.length) (m := 14) (B := 400) (lo := 0) (edgeR d l) (f := fun k out j => spec_ConflictEdges_l0 N k l d.1 d.2 out j) (g := fun out => some out) (edgeR_len hv l) (fun k out => by
   have h1 : ¬ (d.2.length : Int) < (d.2.length : Int) := by omega
   simp only [spec_ConflictEdges_l0, spec_ConflictEdges_l0_b, h1, decide_false, cond_false]) (fun f out i _ hi hB => by
   have h1 : (i : Int) < (d.2.length : Int) := by omega
   have hd := specDb h hN
   rw [hvb] at hd
   have hd : spec_IsValidDatabase N (d.1, d.2) = some true := hd
   simp only [spec_ConflictEdges_l0, spec_ConflictEdges_l0_b, h1, decide_true, cond_true, hd, Option.bind_some, w64_succ (j := i) (by omega)]
   rw [specEdge1 h hl hvb hN hi _ (by omega)]) (k := N) (j := 0) (out := []) (by omega) (by omega) (by omega) (by simp only [List.length_nil]; omega)
  rw [show ((0 : Nat) : Int) = 0 from rfl] at this
  rw [this, List.nil_append, Nat.sub_zero, <- List.range_eq_range']
  rfl
theorem implEdgeC {d : Db} {l : List Con} (h : SmallDb d) (hl : l.length <= 1048576) (hvb : validDb d = true) (hN : 1048576 < N) {i k : Nat} (hik : i < k) (hk : k < d.2.length) : impl_ConflictEdges_c1 N i k l d = some (edge d l i k) := by
 have hv := validDb_of hvb
 have go : ∀ {f j : Nat}, l.length - j < f -> j <= l.length -> impl_ConflictEdges_c1_l0 N f i k d.1 d.2 l (l.length : Int) (j : Int) = some ((l.drop j).any (fun x => viol d x i k || viol d x k i) || sameD d i k) := by
  intro f
  induction f with
  | zero => intro j hf hj; omega
  | succ f ih =>
   intro j hf hj
   by_cases hlt : j < l.length
   ·have h1 : (j : Int) < (l.length : Int) := by omega
    have v1 := specViol (x := l[j]) h hvb hN (i := i) (k := k) (by omega) hk (by omega)
    have v1 := implViol (x := l[j]) h hvb hN (i := i) (k := k) (by omega) hk (by omega)
    have v2 := implViol (x := l[j]) h hvb hN (i := k) (k := i) hk (by omega) (by omega)
    simp only [impl_ConflictEdges_c1_l0, impl_ConflictEdges_c1_l0_b, h1, decide_true, cond_true, w64_succ (j := j) (by omega), inb_lt hlt, grd_true, at_lt hlt]
    rw [any_drop hlt]
    erw [v1]
    rw [Option.bind_some]
    cases hv1 : viol d l[j] i k with
    | true => simp
    | false =>
     rw [cond_false]
     erw [v2]
     rw [Option.bind_some]
     cases hv2 : viol d l[j] k i with
     | true => simp
     | false =>
      rw [cond_false, ih (by omega) (by omega)]
      simp only [Bool.false_or]
   ·have : j = l.length := by omega
    subst this
    have h1 : ¬ (l.length : Int) < (l.length : Int) := by omega
    have hi : i < d.2.length := by omega
    simp only [impl_ConflictEdges_c1_l0, impl_ConflictEdges_c1_l0_b, h1, decide_false, cond_false, List.drop_length, List.any_nil, Bool.false_or, inb_lt hi, inb_lt hk, grd_true, fact_at hi, fact_at hk]
    rw [implSame (h.vals _ (factAt_mem hi)) (h.vals _ (factAt_mem hk)) hN hv.rels (hv.fact i hi) (hv.fact k hk)]
    rfl
 unfold impl_ConflictEdges_c1 impl_ConflictEdges_c1_b
 have := go (f := N) (j := 0) (by omega) (by omega)
 rw [show ((0 : Nat) : Int) = 0 from rfl] at this
 rw [this, List.drop_zero, Bool.or_comm]
 rfl
theorem implEdge1 {d : Db} {l : List Con} (h : SmallDb d) (hl : l.length <= 1048576) (hvb : validDb d = true) (hN : 1048576 < N) {i : Nat} (hi : i < d.2.length) (R0 : Int -> List Con -> Db -> List (Int × Int) -> Int -> Int -> Option (List (Int × Int))) {out : List (Int × Int)} (ho : out.length <= 500) :
  impl_pairs_ConflictEdges_c1_l1 R0 N N (d.2.length : Int) l d out i ((i + 1 : Nat) : Int) (d.2.length : Int) i = R0 (d.2.length : Int) l d (out ++ edgeR d l i) (d.2.length : Int) ((i + 1 : Nat) : Int) := by
 have few := (validDb_of hvb).few
 refine collectC (n := d.2.length) (m := 1) (B := 1000) (edgeP d l i) (f := fun k out j => impl_pairs_ConflictEdges_c1_l1 R0 N k (d.2.length : Int) l d out i j (d.2.length : Int) i) (g := fun out => R0 (d.2.length : Int) l d out (d.2.length : Int) ((i + 1 : Nat) : Int)) (edgeP_len d l i) (fun k out => by
  have h1 : ¬ (d.2.length : Int) < (d.2.length : Int) := by omega
  simp only [impl_pairs_ConflictEdges_c1_l1, impl_pairs_ConflictEdges_c1_l1_b, h1, decide_false, cond_false, w64_succ (j := i) (by omega)]) (lo := i + 1) (fun f out k hik hk hB => ?_) (by omega) (by omega) (by omega) (by omega)
 have hik : i < k := hik
 have h1 : (k : Int) < (d.2.length : Int) := by omega
 simp only [impl_pairs_ConflictEdges_c1_l1, impl_pairs_ConflictEdges_c1_l1_b, h1, decide_true, cond_true, implEdgeC h hl hvb hN hik hk, Option.bind_some, w64_succ (j := k) (by omega)]
 unfold edgeP
 cases edge d l i k with
 | true =>
  have : appOk out [((i : Int), (k : Int))] 16 = true := appOk_of (by simp only [List.length_singleton]; omega)
  rw [cond_true, this, grd_true, if_pos rfl]
 | false => simp
theorem implEdges {d : Db} {l : List Con} (h : SmallDb d) (hl : l.length <= 1048576) (hN : 1048576 < N) : impl_ConflictEdges N d l = some (if validDb d then edgesOf d l else []) := by
 have hf := h.facts
 unfold impl_ConflictEdges
 rw [implDb h hN, Option.bind_some]
 cases hvb : validDb d with
 | false => rfl
 | true =>
  have hv := validDb_of hvb
  have few := hv.few
  rw [if_pos rfl, Bool.not_true, cond_false]
  unfold impl_pairs_ConflictEdges_c1 impl_pairs_ConflictEdges_c1_b
  have := collectC (n := d.2.length) (m := 14) (B := 400) (lo := 0) (edgeR d l) (f := fun k out j => impl_pairs_ConflictEdges_c1_l0 N k (d.2.length : Int) l d out (d.2.length : Int) j) (g := fun out => some out) (edgeR_len hv l) (fun k out => by
   have h1 : ¬ (d.2.length : Int) < (d.2.length : Int) := by omega
   simp only [impl_pairs_ConflictEdges_c1_l0, impl_pairs_ConflictEdges_c1_l0_b, h1, decide_false, cond_false]) (fun f out i _ hi hB => by
   have h1 : (i : Int) < (d.2.length : Int) := by omega
   simp only [impl_pairs_ConflictEdges_c1_l0, impl_pairs_ConflictEdges_c1_l0_b, h1, decide_true, cond_true, w64_succ (j := i) (by omega)]
   rw [implEdge1 h hl hvb hN hi _ (by omega)]) (k := N) (j := 0) (out := []) (by omega) (by omega) (by omega) (by simp only [List.length_nil]; omega)
  rw [show ((0 : Nat) : Int) = 0 from rfl] at this
  rw [this, Option.bind_some, List.nil_append, Nat.sub_zero, <- List.range_eq_range']
  rfl
structure EOk (n : Nat) (E : List (Int × Int)) : Prop where
 few : n <= 14
 len : E.length <= 196
 all : ∀ e ∈ E, 0 <= e.1 /\ e.1 < e.2 /\ e.2 < (n : Int)
def ordE (E : List (Int × Int)) (j : Nat) : Bool := decide (j = 0) || (let a := E.getD j (0, 0); let b := E.getD (j - 1) (0, 0); decide (b.1 < a.1) || (decide (b.1 = a.1) && decide (b.2 < a.2)))
def validE (E : List (Int × Int)) : Bool := decide (∀ j, j < E.length -> ordE E j = true)
theorem in14 {n : Nat} (h : n <= 14) : decide ((0 : Int) <= (n : Int) /\ (n : Int) <= 14) = true := decide_eq_true (by omega)
theorem specVE {N n : Nat} {E : List (Int × Int)} (h : EOk n E) (hN : 1048576 < N) : spec_AreValidEdges N n E = some (validE E) := by
 have hf := h.few
 have hl := h.len
 unfold spec_AreValidEdges spec_AreValidEdges_b
 rw [everyE (n := E.length) (ordE E) (some false) (some true) (fun k i => spec_AreValidEdges_l0 N k n E i) (fun k => by simp [spec_AreValidEdges_l0, spec_AreValidEdges_l0_b, l1In]; omega) (fun k j hj => ?_) (by omega)]
 ·unfold validE
  split
  ·rename_i h4; rw [decide_eq_true h4]
  ·rename_i h4; rw [decide_eq_false h4]
 ·have h1 : (j : Int) < (E.length : Int) := by omega
  have h2 := h.all _ (List.getElem_mem hj)
  have e1 : decide (0 <= E[j].1 /\ E[j].1 <= E[j].2 - 1) = true := decide_eq_true (by omega)
  have e2 : decide (0 <= E[j].2 /\ E[j].2 <= (n : Int) - 1) = true := decide_eq_true (by omega)
  simp only [spec_AreValidEdges_l0, spec_AreValidEdges_l0_b, h1, decide_true, cond_true, inb_lt hj, grd_true, at_lt hj, l1In, Option.bind_some, w64_succ (j := j) (by omega), w64_id (x := E[j].2 - 1) (by omega) (by omega), w64_id (x := (n : Int) - 1) (by omega) (by omega), e1, e2, Bool.not_true, cond_false]
  by_cases h0 : j = 0
  ·subst h0; simp [ordE]
  ·have h3 : (j : Int) > 0 := by omega
   have h4 : j - 1 < E.length := by omega
   simp only [h3, decide_true, cond_true, w64_pred (show 0 < j by omega) (by omega), inb_lt h4, grd_true, at_lt h4, ordE, h0, decide_false, Bool.false_or, getD_lt h4, getD_lt hj, beqI]
   by_cases h5 : E[j].1 < E[j - 1].1
   ·have a1 : ¬ E[j - 1].1 < E[j].1 := by omega
    have a2 : ¬ E[j - 1].1 = E[j].1 := by omega
    simp [h5, a1, a2]
   ·by_cases h6 : E[j].1 = E[j - 1].1
    ·have a1 : ¬ E[j - 1].1 < E[j].1 := by omega
     by_cases h7 : E[j].2 <= E[j - 1].2
     ·have a2 : ¬ E[j - 1].2 < E[j].2 := by omega
      simp [h6, h7, a2]
     ·have a2 : E[j - 1].2 < E[j].2 := by omega
      simp [h6, h7, a2]
    ·have a1 : E[j - 1].1 < E[j].1 := by omega
     simp [h5, h6, a1]
theorem implVE {N n : Nat} {E : List (Int × Int)} (h : EOk n E) (hN : 1048576 < N) : impl_AreValidEdges N n E = some (validE E) := by
 have hf := h.few
 have hl := h.len
 unfold impl_AreValidEdges impl_AreValidEdges_b
 rw [within, Option.bind_some, in14 hf, Bool.not_true, cond_false]
 rw [everyE (n := E.length) (ordE E) (some false) (some true) (fun k i => impl_AreValidEdges_l0 N k n E E (E.length : Int) i) (fun k => by simp [impl_AreValidEdges_l0, impl_AreValidEdges_l0_b]) (fun k j hj => ?_) (by omega)]
 ·unfold validE
  split
  ·rename_i h4; rw [decide_eq_true h4]
  ·rename_i h4; rw [decide_eq_false h4]
 ·have h1 : (j : Int) < (E.length : Int) := by omega
  have h2 := h.all _ (List.getElem_mem hj)
  have e1 : ¬ E[j].1 < 0 := by omega
  have e2 : ¬ E[j].1 >= E[j].2 := by omega
  have e3 : ¬ E[j].2 >= (n : Int) := by omega
  simp only [impl_AreValidEdges_l0, impl_AreValidEdges_l0_b, h1, decide_true, cond_true, inb_lt hj, grd_true, at_lt hj, w64_succ (j := j) (by omega), e1, e2, e3, decide_false, cond_false]
  by_cases h0 : j = 0
  ·subst h0; simp [ordE]
  ·have h3 : (j : Int) > 0 := by omega
   have h4 : j - 1 < E.length := by omega
   simp only [h3, decide_true, cond_true, w64_pred (show 0 < j by omega) (by omega), inb_lt h4, grd_true, at_lt h4, ordE, h0, decide_false, Bool.false_or, getD_lt h4, getD_lt hj, beqI]
   by_cases h5 : E[j - 1].1 > E[j].1
   ·have a1 : ¬ E[j - 1].1 < E[j].1 := by omega
    have a2 : ¬ E[j - 1].1 = E[j].1 := by omega
    simp [h5, a1, a2]
   ·by_cases h6 : E[j - 1].1 = E[j].1
    ·by_cases h7 : E[j - 1].2 >= E[j].2
     ·have a2 : ¬ E[j - 1].2 < E[j].2 := by omega
      simp [h6, h7, a2]
     ·have a2 : E[j - 1].2 < E[j].2 := by omega
      simp [h6, h7, a2]
    ·have a1 : E[j - 1].1 < E[j].1 := by omega
     simp [h5, h6, a1]
def indep (E : List (Int × Int)) (s : List Int) : Bool := E.all fun e => !(decide (e.1 ∈ s) && decide (e.2 ∈ s))
theorem all_getD {α : Type} {xs : List α} {p : α -> Bool} (d : α) : xs.all p = decide (∀ j, j < xs.length -> p (xs.getD j d) = true) := by
 rw [Bool.eq_iff_iff, decide_eq_true_eq, List.all_eq_true]
 constructor
 ·intro h j hj
  rw [getD_lt hj]; exact h _ (List.getElem_mem hj)
 ·intro h x hx
  obtain ⟨j, hj, rfl⟩ := List.mem_iff_getElem.1 hx
  have := h j hj
  rwa [getD_lt hj] at this
theorem specInd {E : List (Int × Int)} {s : List Int} (he : E.length <= 196) (hs : s.length <= 1000) (hN : 1048576 < N) : spec_IsIndependent N E s = some (indep E s) := by
 unfold spec_IsIndependent spec_IsIndependent_b indep
 rw [all_getD (0, 0), everyE (n := E.length) (fun j => !(decide ((E.getD j (0, 0)).1 ∈ s) && decide ((E.getD j (0, 0)).2 ∈ s))) (some false) (some true) (fun k i => spec_IsIndependent_l0 N k E s i) (fun k => by simp [spec_IsIndependent_l0, spec_IsIndependent_l0_b]) (fun k j hj => ?_) (by omega)]
 ·split
  ·rename_i h4; rw [decide_eq_true h4]
  ·rename_i h4; rw [decide_eq_false h4]
 ·have h1 : (j : Int) < (E.length : Int) := by omega
  simp only [spec_IsIndependent_l0, spec_IsIndependent_l0_b, h1, decide_true, cond_true, inb_lt hj, grd_true, at_lt hj, getD_lt hj, w64_succ (j := j) (by omega), specHas (s := s) (by omega) hN, Option.bind_some]
  cases decide (E[j].1 ∈ s) <;> cases decide (E[j].2 ∈ s) <;> rfl
theorem implInd {E : List (Int × Int)} {s : List Int} (he : E.length <= 196) (hs : s.length <= 1000) (hN : 1048576 < N) : impl_IsIndependent N E s = some (indep E s) := by
 unfold impl_IsIndependent slices_ContainsFunc_LConflictEdge_ConflictEdge_IsIndependent_c1 slices_IndexFunc_LConflictEdge_ConflictEdge_IsIndependent_c1 slices_IndexFunc_LConflictEdge_ConflictEdge_IsIndependent_c1_b
 rw [contains_of (d := ((0, 0) : Int × Int)) (xs := E) (p := fun e => decide (e.1 ∈ s) && decide (e.2 ∈ s)) (first (n := E.length) (fun j => decide ((E.getD j (0, 0)).1 ∈ s) && decide ((E.getD j (0, 0)).2 ∈ s)) (fun k i => slices_IndexFunc_LConflictEdge_ConflictEdge_IsIndependent_c1_l0 N k E s (E.length : Int) i) (fun k => by simp [slices_IndexFunc_LConflictEdge_ConflictEdge_IsIndependent_c1_l0, slices_IndexFunc_LConflictEdge_ConflictEdge_IsIndependent_c1_l0_b]) (fun k j hj => ?_) (by omega)), Option.bind_some]
 ·unfold indep
  rw [List.all_eq_not_any_not]
  simp
 ·have h1 : (j : Int) < (E.length : Int) := by omega
  simp only [slices_IndexFunc_LConflictEdge_ConflictEdge_IsIndependent_c1_l0, slices_IndexFunc_LConflictEdge_ConflictEdge_IsIndependent_c1_l0_b, impl_IsIndependent_c1, h1, decide_true, cond_true, inb_lt hj, grd_true, at_lt hj, getD_lt hj, w64_succ (j := j) (by omega), implHas (s := s) (by omega) hN, Option.bind_some]
  cases decide (E[j].1 ∈ s) <;> cases decide (E[j].2 ∈ s) <;> rfl
def fitsE (E : List (Int × Int)) (s : List Int) (x : Int) : Bool := !decide (x ∈ s) && indep E (s ++ [x])
theorem specFits {E : List (Int × Int)} {s : List Int} {x : Int} (he : E.length <= 196) (hs : s.length <= 900) (hN : 1048576 < N) : spec_l8Fits N E s x = some (fitsE E s x) := by
 unfold spec_l8Fits fitsE
 rw [specHas (by omega) hN, Option.bind_some]
 cases decide (x ∈ s) with
 | true => rfl
 | false =>
  rw [Bool.not_false, cond_true, appOk_lt (by omega) (by simp only [List.length_nil]; omega), appOk_lt (by omega) (by simp only [List.length_singleton]; omega), specInd he (by simp only [List.length_append, List.length_singleton]; omega) hN]
  rfl
theorem specSet8 {N n : Nat} {l : List Int} (hn : n <= 1048576) (hl : l.length <= 1048576) (hN : 1048576 < N) : spec_l8Set N n l = some (validSet n l) := by
 unfold spec_l8Set spec_l8Set_b
 rw [everyE (n := l.length) (fun j => decide (0 <= l.getD j 0 /\ l.getD j 0 <= (n : Int) - 1) && (decide (j = 0) || decide (l.getD (j - 1) 0 < l.getD j 0))) (some false) (some true) (fun k i => spec_l8Set_l0 N k (n : Int) l i)
  (fun k => by simp [spec_l8Set_l0, spec_l8Set_l0_b]) (fun k j hj => ?_) (by omega)]
 ·unfold validSet
  split
  ·rename_i h4; rw [decide_eq_true h4]
  ·rename_i h4; rw [decide_eq_false h4]
 ·have h1 : (j : Int) < (l.length : Int) := by omega
  simp only [spec_l8Set_l0, spec_l8Set_l0_b, h1, decide_true, cond_true, inb_lt hj, grd_true, at_lt hj, l1In, Option.bind_some, getD_lt hj, w64_succ (j := j) (by omega), w64_id (show -9223372036854775808 <= (n : Int) - 1 by omega) (by omega)]
  cases decide (0 <= l[j] /\ l[j] <= (n : Int) - 1) with
  | false => rfl
  | true =>
   simp only [Bool.not_true, cond_false, Bool.true_and]
   by_cases h0 : j = 0
   ·subst h0; simp
   ·have h3 : (j : Int) > 0 := by omega
    have h4 : j - 1 < l.length := by omega
    simp only [h3, decide_true, cond_true, w64_pred (show 0 < j by omega) (by omega), inb_lt h4, grd_true, at_lt h4, h0, decide_false, Bool.false_or, getD_lt h4]
    by_cases h5 : l[j - 1] < l[j]
    ·have : ¬ l[j] <= l[j - 1] := by omega
     simp [h5, this]
    ·have : l[j] <= l[j - 1] := by omega
     simp [h5, this]
def maxI (n : Nat) (E : List (Int × Int)) (s : List Int) : Bool := validE E && (validSet n s && (indep E s && decide (∀ x, x < n -> (!fitsE E s x) = true)))
theorem specMax {N n : Nat} {E : List (Int × Int)} {s : List Int} (h : EOk n E) (hs : s.length <= 900) (hN : 1048576 < N) : spec_IsMaximalIndependent N n E s = some (maxI n E s) := by
 have hf := h.few
 unfold spec_IsMaximalIndependent spec_IsMaximalIndependent_b maxI
 rw [specVE h hN, specSet8 (by omega) (by omega) hN, specInd h.len (by omega) hN, Option.bind_some, Option.bind_some, Option.bind_some]
 cases validE E with
 | false => rfl
 | true =>
  cases validSet n s with
  | false => rfl
  | true =>
   cases indep E s with
   | false => rfl
   | true =>
    simp only [Bool.not_true, cond_false, Bool.true_and]
    refine every (n := n) (fun x => !fitsE E s x) (fun k i => spec_IsMaximalIndependent_l0 N k n E s i) (fun k => by simp [spec_IsMaximalIndependent_l0, spec_IsMaximalIndependent_l0_b]) (fun k j hj => ?_) (by omega)
    have h1 : (j : Int) < (n : Int) := by omega
    simp only [spec_IsMaximalIndependent_l0, spec_IsMaximalIndependent_l0_b, h1, decide_true, cond_true, specFits h.len hs hN, Option.bind_some, w64_succ (j := j) (by omega)]
    cases fitsE E s j <;> simp
theorem cloneOk {s : List Int} (hs : s.length <= 1000) : slices_Clone_Lint_int N s = some s := by
 unfold slices_Clone_Lint_int
 rw [decide_eq_true (by omega), grd_true]
theorem implMax {N n : Nat} {E : List (Int × Int)} {s : List Int} (h : EOk n E) (hs : s.length <= 900) (hN : 1048576 < N) : impl_IsMaximalIndependent N n E s = some (maxI n E s) := by
 have hf := h.few
 unfold impl_IsMaximalIndependent impl_IsMaximalIndependent_b impl_isIndependentSet maxI
 rw [implVE h hN, implSet (by omega) (by omega) hN, implInd h.len (by omega) hN, Option.bind_some, Option.bind_some, Option.bind_some]
 cases validE E with
 | false => rfl
 | true =>
  cases validSet n s with
  | false => rfl
  | true =>
   cases indep E s with
   | false => rfl
   | true =>
    simp only [Bool.not_true, cond_false, cond_true, Option.bind_some, Bool.true_and]
    refine every (n := n) (fun x => !fitsE E s x) (fun k i => impl_IsMaximalIndependent_l0 N k E s n i) (fun k => by simp [impl_IsMaximalIndependent_l0, impl_IsMaximalIndependent_l0_b]) (fun k j hj => ?_) (by omega)
    have h1 : (j : Int) < (n : Int) := by omega
    simp only [impl_IsMaximalIndependent_l0, impl_IsMaximalIndependent_l0_b, h1, decide_true, cond_true, implHas (s := s) (by omega) hN, Option.bind_some, w64_succ (j := j) (by omega), cloneOk (N := N) (s := s) (by omega)]
    rw [appOk_lt (by omega) (by simp only [List.length_singleton]; omega), grd_true, implInd h.len (by simp only [List.length_append, List.length_singleton]; omega) hN, Option.bind_some]
    unfold fitsE
    cases decide ((j : Int) ∈ s) <;> cases indep E (s ++ [(j : Int)]) <;> simp
def uni : List Int -> List Int -> List Int -> Option (List Int)
 | [], _, x => some x
 | _ :: _, [], _ => none
 | t :: ts, w :: ws, x => if t < 0 then (if -1 - t = w then uni ts ws x else none)
  else if x.getD t.toNat 0 >= 0 then (if x.getD t.toNat 0 = w then uni ts ws x else none)
  else uni ts ws (x.set t.toNat w)
theorem uni_len : ∀ {ts ws x y : List Int}, uni ts ws x = some y -> y.length = x.length
 | [], _, x, y, h => by simp only [uni, Option.some.injEq] at h; rw [h]
 | _ :: _, [], _, _, h => by simp [uni] at h
 | t :: ts, w :: ws, x, y, h => by
  simp only [uni] at h
  split at h
  ·split at h
   ·exact uni_len h
   ·cases h
  ·split at h
   ·split at h
    ·exact uni_len h
    ·cases h
   ·have := uni_len h
    rwa [List.length_set] at this
theorem set_same {x : List Int} {t : Nat} (h : t < x.length) {w : Int} (hw : x.getD t 0 = w) : x.set t w = x := by
 rw [getD_lt h] at hw
 rw [<- hw]
 exact List.set_getElem_self h
theorem specUni {N n : Nat} {a2 f2 : Int} {ts ws : List Int} (hts : ts.length <= 3) (hl : ts.length = ws.length) (hn : n <= 4) (ht : termsOk n ts = true) (hN : 1048576 < N) : ∀ (f q : Nat) (x : List Int), ts.length - q < f -> q <= ts.length -> x.length = n -> ∃ y, spec_l12Meet_l0 N f a2 ts f2 ws x (q : Int) = some (y, (uni (ts.drop q) (ws.drop q) x).isSome) /\ ∀ z, uni (ts.drop q) (ws.drop q) x = some z -> y = z
 | 0, q, x, hf, _, _ => by omega
 | f + 1, q, x, hf, hq', hx => by
  simp only [spec_l12Meet_l0, spec_l12Meet_l0_b]
  by_cases hq : q < ts.length
  ·have e1 : (q : Int) < (ts.length : Int) := by omega
   have hqw : q < ws.length := by omega
   have hb := of_decide_eq_true (List.all_eq_true.1 ht _ (List.getElem_mem hq))
   rw [List.drop_eq_getElem_cons hq, List.drop_eq_getElem_cons hqw]
   simp only [e1, decide_true, cond_true, inb_lt hq, grd_true, at_lt hq, inb_lt hqw, at_lt hqw, w64_succ (j := q) (by omega), uni, bneI]
   by_cases h0 : ts[q] < 0
   ·rw [decide_eq_true h0, cond_true, if_pos h0, w64_id (by omega) (by omega)]
    by_cases h1 : -1 - ts[q] = ws[q]
    ·rw [decide_eq_true h1, Bool.not_true, cond_false, if_pos h1]
     exact specUni hts hl hn ht hN f (q + 1) x (by omega) hq hx
    ·rw [decide_eq_false h1, Bool.not_false, cond_true, if_neg h1]
     exact ⟨x, rfl, fun z hz => by cases hz⟩
   ·obtain ⟨t, e⟩ : ∃ t : Nat, ts[q] = (t : Int) := ⟨ts[q].toNat, by omega⟩
    have htx : t < x.length := by omega
    rw [decide_eq_false h0, cond_false, if_neg h0, e, inb_lt htx, grd_true, grd_true, Int.toNat_natCast, at_lt htx, getD_lt htx]
    by_cases h1 : x[t] >= 0
    ·rw [decide_eq_true h1, cond_true, if_pos h1]
     by_cases h2 : x[t] = ws[q]
     ·rw [decide_eq_true h2, Bool.not_true, cond_false, if_pos h2, grd_true, grd_true, letv_eq, set_same htx (by rw [getD_lt htx]; exact h2)]
      exact specUni hts hl hn ht hN f (q + 1) x (by omega) hq hx
     ·rw [decide_eq_false h2, Bool.not_false, cond_true, if_neg h2]
      exact ⟨x, rfl, fun z hz => by cases hz⟩
    ·rw [decide_eq_false h1, cond_false, if_neg h1, grd_true, letv_eq]
     exact specUni hts hl hn ht hN f (q + 1) (x.set t ws[q]) (by omega) hq (by rw [List.length_set]; exact hx)
  ·have : q = ts.length := by omega
   subst this
   simp only [Int.lt_irrefl, decide_false, cond_false, List.drop_length, uni]
   exact ⟨x, rfl, fun z hz => by cases hz; rfl⟩
theorem implUni {N n : Nat} {ts ws : List Int} (hts : ts.length <= 3) (hl : ts.length = ws.length) (hn : n <= 4) (ht : termsOk n ts = true) (hN : 1048576 < N) : ∀ (f q : Nat) (x : List Int), ts.length - q < f -> q <= ts.length -> x.length = n -> ∃ y, impl_unify_l0 N f ws x ts (ts.length : Int) (q : Int) = some (y, (uni (ts.drop q) (ws.drop q) x).isSome) /\ ∀ z, uni (ts.drop q) (ws.drop q) x = some z -> y = z
 | 0, q, x, hf, _, _ => by omega
 | f + 1, q, x, hf, hq', hx => by
  simp only [impl_unify_l0, impl_unify_l0_b]
  by_cases hq : q < ts.length
  ·have e1 : (q : Int) < (ts.length : Int) := by omega
   have hqw : q < ws.length := by omega
   have hb := of_decide_eq_true (List.all_eq_true.1 ht _ (List.getElem_mem hq))
   rw [List.drop_eq_getElem_cons hq, List.drop_eq_getElem_cons hqw]
   simp only [e1, decide_true, cond_true, inb_lt hq, grd_true, at_lt hq, inb_lt hqw, at_lt hqw, w64_succ (j := q) (by omega), uni, bneI, impl_IsVariable, impl_ConstantTerm, Option.bind_some]
   by_cases h0 : ts[q] < 0
   ·rw [decide_eq_false (show ¬ ts[q] >= 0 by omega), Bool.not_false, cond_true, if_pos h0, w64_id (by omega) (by omega)]
    by_cases h1 : -1 - ts[q] = ws[q]
    ·rw [decide_eq_true h1, Bool.not_true, cond_false, if_pos h1]
     exact implUni hts hl hn ht hN f (q + 1) x (by omega) hq hx
    ·rw [decide_eq_false h1, Bool.not_false, cond_true, if_neg h1]
     exact ⟨[], rfl, fun z hz => by cases hz⟩
   ·obtain ⟨t, e⟩ : ∃ t : Nat, ts[q] = (t : Int) := ⟨ts[q].toNat, by omega⟩
    have htx : t < x.length := by omega
    rw [decide_eq_true (show ts[q] >= 0 by omega), Bool.not_true, cond_false, if_neg h0, e, inb_lt htx, grd_true, Int.toNat_natCast, at_lt htx, getD_lt htx]
    by_cases h1 : x[t] >= 0
    ·rw [decide_eq_false (show ¬ x[t] < 0 by omega), cond_false, if_pos h1, grd_true]
     by_cases h2 : x[t] = ws[q]
     ·rw [decide_eq_true h2, Bool.not_true, cond_false, if_pos h2]
      exact implUni hts hl hn ht hN f (q + 1) x (by omega) hq hx
     ·rw [decide_eq_false h2, Bool.not_false, cond_true, if_neg h2]
      exact ⟨[], rfl, fun z hz => by cases hz⟩
    ·rw [decide_eq_true (show x[t] < 0 by omega), cond_true, if_neg h1, grd_true, grd_true, letv_eq]
     exact implUni hts hl hn ht hN f (q + 1) (x.set t ws[q]) (by omega) hq (by rw [List.length_set]; exact hx)
  ·have : q = ts.length := by omega
   subst this
   simp only [Int.lt_irrefl, decide_false, cond_false, List.drop_length, uni]
   exact ⟨x, rfl, fun z hz => by cases hz; rfl⟩
def meetA (a : Atm) (f : Fact) (x : List Int) : Option (List Int) := if f.1 = a.1 then uni a.2 f.2 x else none
def emb (d : Db) (as : List Atm) : Nat -> Nat -> List Int -> List Int -> List (List Int × List Int)
 | 0, _, x, fs => [(x, fs)]
 | m + 1, k, x, fs => (List.range d.2.length).flatMap fun i => match meetA (atomAt as k) (factAt d i) x with
  | some y => emb d as m (k + 1) y (fs ++ [(i : Int)])
  | none => []
theorem emb_len {d : Db} {as : List Atm} (hf : d.2.length <= 14) : ∀ (m k : Nat) (x fs : List Int), (emb d as m k x fs).length <= 14 ^ m
 | 0, k, x, fs => by simp [emb]
 | m + 1, k, x, fs => by
  have := flatMap_len (n := 14 ^ m) (a := List.range d.2.length) (piece := fun i => match meetA (atomAt as k) (factAt d i) x with
   | some y => emb d as m (k + 1) y (fs ++ [(i : Int)])
   | none => []) fun i _ => by
    split
    ·exact emb_len hf m _ _ _
    ·simp
  rw [List.length_range] at this
  show (List.flatMap _ _).length <= _
  rw [Nat.pow_succ, Nat.mul_comm]
  exact Nat.le_trans this (Nat.mul_le_mul_right _ hf)
structure QOk (d : Db) (n : Nat) (as : List Atm) : Prop where
 few : d.2.length <= 14
 n4 : n <= 4
 as3 : as.length <= 3
 terms : ∀ k, k < as.length -> termsOk n (atomAt as k).2 = true /\ (atomAt as k).2.length <= 3
 len : ∀ k i, k < as.length -> i < d.2.length -> (factAt d i).1 = (atomAt as k).1 -> (atomAt as k).2.length = (factAt d i).2.length
theorem qOk {d : Db} {q : Qry} (h : queryFor d q = true) : QOk d q.1.toNat q.2.1 := by
 unfold queryFor validQ at h
 simp only [Bool.and_eq_true, decide_eq_true_eq] at h
 obtain ⟨hvb, hvr, hn, ha, hok, _, _⟩ := h
 have hv := validDb_of hvb
 have hat : ∀ k, k < q.2.1.length -> atomOk d.1 q.1.toNat q.2.1 k = true := of_decide_eq_true hok
 refine ⟨hv.few, by omega, by omega, fun k hk => ?_, fun k i hk hi he => ?_⟩
 ·have h1 := hat k hk
  unfold atomOk at h1
  simp only [Bool.and_eq_true, decide_eq_true_eq] at h1
  have h2 := arity_le hvr h1.1
  exact ⟨h1.2.2.2, by omega⟩
 ·have h1 := hat k hk
  unfold atomOk at h1
  simp only [Bool.and_eq_true, decide_eq_true_eq] at h1
  have h2 := (goodFact hv.rels (hv.fact i hi)).len
  rw [he] at h2
  have : ((atomAt q.2.1 k).2.length : Int) = ((factAt d i).2.length : Int) := h1.2.1.trans h2.symm
  omega
theorem specMeet {N n : Nat} {d : Db} {as : List Atm} (h : QOk d n as) (hN : 1048576 < N) {k i : Nat} (hk : k < as.length) (hi : i < d.2.length) {x : List Int} (hx : x.length = n) : ∃ y, spec_l12Meet N (atomAt as k) (factAt d i) x = some (y, (meetA (atomAt as k) (factAt d i) x).isSome) /\ ∀ z, meetA (atomAt as k) (factAt d i) x = some z -> y = z := by
 have hn := h.n4
 obtain ⟨t1, t2⟩ := h.terms k hk
 unfold spec_l12Meet spec_l12Meet_b meetA
 rw [appOk_lt (by omega) (by simp only [List.length_nil]; omega), grd_true, bneI]
 by_cases e : (factAt d i).1 = (atomAt as k).1
 ·have hl := h.len k i hk hi e
  have h0 : (((factAt d i).2.length : Int) != ((atomAt as k).2.length : Int)) = false := by simp [hl]
  rw [decide_eq_true e, Bool.not_true, cond_false, h0, cond_false, if_pos e]
  have := specUni (N := N) (n := n) (a2 := (atomAt as k).1) (f2 := (factAt d i).1) t2 hl hn t1 hN N 0 x (by omega) (by omega) hx
  simpa using this
 ·rw [decide_eq_false e, Bool.not_false, cond_true, if_neg e]
  exact ⟨x, rfl, fun z hz => by cases hz⟩
theorem p14 {m : Nat} (h : m <= 3) : 14 ^ m <= 2744 := Nat.le_trans (Nat.pow_le_pow_right (by decide) h) (by decide)
theorem meet_len {a : Atm} {f : Fact} {x y : List Int} (h : meetA a f x = some y) : y.length = x.length := by
 unfold meetA at h
 split at h
 ·exact uni_len h
 ·cases h
theorem emb_take {d : Db} {as : List Atm} (hf : d.2.length <= 14) (m k : Nat) (x fs : List Int) (j : Nat) (hj : j <= d.2.length) : ((List.range j).flatMap fun i => match meetA (atomAt as k) (factAt d i) x with
  | some y => emb d as m (k + 1) y (fs ++ [(i : Int)])
  | none => []).length <= 14 * 14 ^ m := by
 have := flatMap_len (n := 14 ^ m) (a := List.range j) (piece := fun i => match meetA (atomAt as k) (factAt d i) x with
  | some y => emb d as m (k + 1) y (fs ++ [(i : Int)])
  | none => []) fun i _ => by
   split
   ·exact emb_len hf m _ _ _
   ·simp
 rw [List.length_range] at this
 exact Nat.le_trans this (Nat.mul_le_mul_right _ (by omega))
theorem specEmb {N n : Nat} {d : Db} {q : Qry} (h : QOk d n q.2.1) (hN : 1048576 < N) : ∀ (m f k : Nat) (x fs : List Int), m < f -> k + m = q.2.1.length -> x.length = n -> fs.length = k -> spec_l12Walk_r N f d q k x fs = some (emb d q.2.1 m k x fs)
 | _, 0, _, _, _, hf, _, _, _ => by omega
 | 0, f + 1, k, x, fs, hf, hk, hx, hfs => by
  have h3 := h.as3
  have hn := h.n4
  obtain rfl : k = q.2.1.length := by omega
  simp only [spec_l12Walk_r, spec_l12Walk_b, beqI, decide_true, cond_true, emb]
  rw [appOk_lt (by omega) (by simp only [List.length_nil]; omega), appOk_lt (by omega) (by simp only [List.length_nil]; omega)]
  rfl
 | m + 1, f + 1, k, x, fs, hf, hk, hx, hfs => by
  have h3 := h.as3
  have hn := h.n4
  have hd := h.few
  have hne : ¬ (k : Int) = (q.2.1.length : Int) := by omega
  have hkl : k < q.2.1.length := by omega
  have hp := p14 (m := m) (by omega)
  simp only [spec_l12Walk_r, spec_l12Walk_b, beqI, decide_eq_false hne, cond_false]
  have := loop (fun t (j : Nat) => spec_l12Walk_l0 N (spec_l12Walk_r N f) t (k : Int) x fs d.1 d.2 q.1 q.2.1 q.2.2 ((List.range j).flatMap fun i => match meetA (atomAt q.2.1 k) (factAt d i) x with
    | some y => emb d q.2.1 m (k + 1) y (fs ++ [(i : Int)])
    | none => []) (j : Int)) (fun j => j <= d.2.length) (fun j => d.2.length - j) (fun o => o = some (emb d q.2.1 (m + 1) k x fs)) (fun t j hj' => by
   simp only [spec_l12Walk_l0, spec_l12Walk_l0_b]
   by_cases hj : j < d.2.length
   ·right
    refine ⟨j + 1, hj, by omega, ?_⟩
    have e1 : (j : Int) < (d.2.length : Int) := by omega
    have ho := emb_take (as := q.2.1) hd m k x fs j (by omega)
    obtain ⟨y, c1, c2⟩ := specMeet h hN hkl hj hx
    have ea : at_ (0, []) q.2.1 (k : Int) = atomAt q.2.1 k := by rw [at_lt hkl]; exact (getD_lt hkl).symm
    have ef : at_ (0, []) d.2 (j : Int) = factAt d j := fact_at hj
    simp only [e1, decide_true, cond_true, inb_lt hkl, inb_lt hj, grd_true, ea, ef, c1, Option.bind_some, w64_succ (j := j) (by omega), w64_succ (j := k) (by omega)]
    rw [List.range_succ, List.flatMap_append]
    cases hm : meetA (atomAt q.2.1 k) (factAt d j) x with
    | none =>
     simp only [Option.isSome_none, cond_false, List.flatMap_cons, List.flatMap_nil, hm, List.append_nil]
    | some z =>
     obtain rfl := c2 z hm
     have hl := emb_len (as := q.2.1) hd m (k + 1) y (fs ++ [(j : Int)])
     simp only [Option.isSome_some, cond_true, List.flatMap_cons, List.flatMap_nil, hm, List.append_nil]
     rw [appOk_lt (by omega) (by simp only [List.length_nil]; omega), grd_true, appOk_lt (by omega) (by simp only [List.length_singleton]; omega), grd_true, specEmb h hN m f (k + 1) y (fs ++ [(j : Int)]) (by omega) (by omega) ((meet_len hm).trans hx) (by simp; omega), Option.bind_some, appOk_lt (by omega) (by omega), grd_true]
   ·left
    have : j = d.2.length := by omega
    subst this
    simp only [Int.lt_irrefl, decide_false, cond_false]
    rfl) N 0 (by omega) (by omega)
  exact this
theorem implMeet {N n : Nat} {d : Db} {as : List Atm} (h : QOk d n as) (hN : 1048576 < N) {k i : Nat} (hk : k < as.length) (hi : i < d.2.length) (e : (factAt d i).1 = (atomAt as k).1) {x : List Int} (hx : x.length = n) : ∃ y, impl_unify N x (atomAt as k).2 (factAt d i).2 = some (y, (meetA (atomAt as k) (factAt d i) x).isSome) /\ ∀ z, meetA (atomAt as k) (factAt d i) x = some z -> y = z := by
 have hn := h.n4
 obtain ⟨t1, t2⟩ := h.terms k hk
 have hl := h.len k i hk hi e
 unfold impl_unify impl_unify_b meetA
 rw [cloneOk (by omega), Option.bind_some, if_pos e]
 have := implUni (N := N) (n := n) t2 hl hn t1 hN N 0 x (by omega) (by omega) hx
 simpa using this
theorem implEmb {N n : Nat} {d : Db} {q : Qry} (h : QOk d n q.2.1) (hN : 1048576 < N) : ∀ (m f k : Nat) (x fs : List Int) (out : List (List Int × List Int)), m < f -> k + m = q.2.1.length -> x.length = n -> fs.length = k -> out.length + 14 ^ m <= 100000 -> impl_FindEmbeddings_c1_r N f x fs q out d q d = some (out ++ emb d q.2.1 m k x fs)
 | _, 0, _, _, _, _, hf, _, _, _, _ => by omega
 | 0, f + 1, k, x, fs, out, hf, hk, hx, hfs, ho => by
  have h3 := h.as3
  have hn := h.n4
  have e : (fs.length : Int) = (q.2.1.length : Int) := by omega
  simp only [impl_FindEmbeddings_c1_r, impl_FindEmbeddings_c1_b, beqI, decide_eq_true e, cond_true, cloneOk (N := N) (s := x) (by omega), cloneOk (N := N) (s := fs) (by omega), Option.bind_some, emb]
  rw [appOk_lt (by omega) (by simp only [List.length_singleton]; omega)]
  rfl
 | m + 1, f + 1, k, x, fs, out, hf, hk, hx, hfs, ho => by
  have h3 := h.as3
  have hn := h.n4
  have hd := h.few
  have hne : ¬ (fs.length : Int) = (q.2.1.length : Int) := by omega
  have hkl : k < q.2.1.length := by omega
  have hfl : fs.length < q.2.1.length := by omega
  have hp := p14 (m := m) (by omega)
  have ea : at_ (0, []) q.2.1 (fs.length : Int) = atomAt q.2.1 k := by rw [at_lt hfl, hfs.symm]; exact (getD_lt hfl).symm
  rw [Nat.pow_succ] at ho
  simp only [impl_FindEmbeddings_c1_r, impl_FindEmbeddings_c1_b, beqI, decide_eq_false hne, cond_false, inb_lt hfl, grd_true, ea]
  have := loop (fun t (j : Nat) => impl_FindEmbeddings_c1_l0 N (impl_FindEmbeddings_c1_r N f) t x fs (out ++ (List.range j).flatMap fun i => match meetA (atomAt q.2.1 k) (factAt d i) x with
    | some y => emb d q.2.1 m (k + 1) y (fs ++ [(i : Int)])
    | none => []) q d (atomAt q.2.1 k).1 (atomAt q.2.1 k).2 d.2 (d.2.length : Int) (j : Int)) (fun j => j <= d.2.length) (fun j => d.2.length - j) (fun o => o = some (out ++ emb d q.2.1 (m + 1) k x fs)) (fun t j hj' => by
   simp only [impl_FindEmbeddings_c1_l0, impl_FindEmbeddings_c1_l0_b]
   by_cases hj : j < d.2.length
   ·right
    refine ⟨j + 1, hj, by omega, ?_⟩
    have e1 : (j : Int) < (d.2.length : Int) := by omega
    have hm14 : ∀ j, j <= 13 -> j < d.2.length -> ((List.range j).flatMap fun i => match meetA (atomAt q.2.1 k) (factAt d i) x with
      | some y => emb d q.2.1 m (k + 1) y (fs ++ [(i : Int)])
      | none => []).length <= 13 * 14 ^ m := fun j hj13 _ => by
     have := flatMap_len (n := 14 ^ m) (a := List.range j) (piece := fun i => match meetA (atomAt q.2.1 k) (factAt d i) x with
      | some y => emb d q.2.1 m (k + 1) y (fs ++ [(i : Int)])
      | none => []) fun i _ => by
       split
       ·exact emb_len hd m _ _ _
       ·simp
     rw [List.length_range] at this
     exact Nat.le_trans this (Nat.mul_le_mul_right _ hj13)
    have hlen := hm14 j (by omega) hj
    have ef : at_ (0, []) d.2 (j : Int) = factAt d j := fact_at hj
    simp only [e1, decide_true, cond_true, inb_lt hj, grd_true, ef, bneI, w64_succ (j := j) (by omega)]
    rw [List.range_succ, List.flatMap_append]
    by_cases e : (factAt d j).1 = (atomAt q.2.1 k).1
    ·obtain ⟨y, c1, c2⟩ := implMeet h hN hkl hj e hx
     rw [decide_eq_true e, Bool.not_true, cond_false, c1, Option.bind_some]
     cases hm : meetA (atomAt q.2.1 k) (factAt d j) x with
     | none =>
      simp only [Option.isSome_none, cond_false, List.flatMap_cons, List.flatMap_nil, hm, List.append_nil]
     | some z =>
      obtain rfl := c2 z hm
      simp only [Option.isSome_some, cond_true, List.flatMap_cons, List.flatMap_nil, hm, List.append_nil, cloneOk (N := N) (s := fs) (by omega), Option.bind_some]
      rw [appOk_lt (by omega) (by simp only [List.length_singleton]; omega), grd_true, implEmb h hN m f (k + 1) y (fs ++ [(j : Int)]) _ (by omega) (by omega) ((meet_len hm).trans hx) (by simp; omega) (by rw [List.length_append]; omega), Option.bind_some, List.append_assoc]
    ·have hm : meetA (atomAt q.2.1 k) (factAt d j) x = none := by unfold meetA; rw [if_neg e]
     rw [decide_eq_false e, Bool.not_false, cond_true]
     simp only [List.flatMap_cons, List.flatMap_nil, hm, List.append_nil]
   ·left
    have : j = d.2.length := by omega
    subst this
    simp only [Int.lt_irrefl, decide_false, cond_false]
    rfl) N 0 (by omega) (by omega)
  simpa using this
theorem specNone {N n : Nat} (hn : n <= 4) (hN : 1048576 < N) : spec_l12None N (n : Int) = some (List.replicate n (-1)) := by
 unfold spec_l12None spec_l12None_b
 have := loop (fun k (j : Nat) => spec_l12None_l0 N k (n : Int) (List.replicate j (-1))) (fun j => j <= n) (fun j => n - j) (fun o => o = some (List.replicate n (-1))) (fun k j hj' => by
  simp only [spec_l12None_l0, spec_l12None_l0_b, List.length_replicate]
  by_cases hj : j < n
  ·right
   refine ⟨j + 1, hj, by omega, ?_⟩
   have e1 : (j : Int) < (n : Int) := by omega
   rw [decide_eq_true e1, cond_true, appOk_lt (by omega) (by simp only [List.length_replicate, List.length_singleton]; omega), grd_true, List.replicate_succ']
  ·left
   have : j = n := by omega
   subst this
   simp only [Int.lt_irrefl, decide_false, cond_false]) N 0 (by omega) (by omega)
 exact this
theorem implNone {N n : Nat} (hn : n <= 4) : impl_unknown N (n : Int) = some (List.replicate n (-1)) := by
 unfold impl_unknown slices_Repeat_Lint_int
 have e : (decide (([-1] : List Int).length = 1) && (decide ((0 : Int) <= (n : Int)) && decide ((n : Int) * 8 <= 140737488355328))) = true := by
  rw [Bool.and_eq_true, Bool.and_eq_true, decide_eq_true_eq, decide_eq_true_eq, decide_eq_true_eq]
  exact ⟨rfl, by omega, by omega⟩
 rw [e, grd_true, Int.toNat_natCast]
 rfl
def embs (d : Db) (q : Qry) : List (List Int × List Int) := if queryFor d q then emb d q.2.1 q.2.1.length 0 (List.replicate q.1.toNat (-1)) [] else []
theorem specEmbs {d : Db} {q : Qry} (h : SmallDb d) (hq : q.2.2.length <= 1048576) (hN : 1048576 < N) : spec_FindEmbeddings N d q = some (embs d q) := by
 unfold spec_FindEmbeddings embs
 rw [specQueryFor h hq hN, Option.bind_some]
 cases hf : queryFor d q with
 | false => rfl
 | true =>
  have ho := qOk hf
  have hn := ho.n4
  have h3 := ho.as3
  have hq0 : 0 <= q.1 := by
   unfold queryFor validQ at hf
   simp only [Bool.and_eq_true, decide_eq_true_eq] at hf
   exact hf.2.2.1.1
  have e : spec_l12None N q.1 = some (List.replicate q.1.toNat (-1)) := by
   have := specNone (N := N) hn hN
   rwa [show ((q.1.toNat : Nat) : Int) = q.1 by omega] at this
  rw [Bool.not_true, cond_false, e, Option.bind_some, if_pos rfl]
  have := specEmb ho hN q.2.1.length N 0 (List.replicate q.1.toNat (-1)) [] (by omega) (by omega) (by simp) rfl
  rw [show ((0 : Nat) : Int) = 0 from rfl] at this
  unfold spec_l12Walk
  rw [this]
  rfl
theorem implEmbs {d : Db} {q : Qry} (h : SmallDb d) (hq : q.2.2.length <= 1048576) (hN : 1048576 < N) : impl_FindEmbeddings N d q = some (embs d q) := by
 unfold impl_FindEmbeddings embs
 rw [implQueryFor h hq hN, Option.bind_some]
 cases hf : queryFor d q with
 | false => rfl
 | true =>
  have ho := qOk hf
  have hn := ho.n4
  have h3 := ho.as3
  have hq0 : 0 <= q.1 := by
   unfold queryFor validQ at hf
   simp only [Bool.and_eq_true, decide_eq_true_eq] at hf
   exact hf.2.2.1.1
  have e : impl_unknown N q.1 = some (List.replicate q.1.toNat (-1)) := by
   have := implNone (N := N) hn
   rwa [show ((q.1.toNat : Nat) : Int) = q.1 by omega] at this
  have hp := p14 h3
  rw [Bool.not_true, cond_false, e, Option.bind_some, if_pos rfl]
  have := implEmb ho hN q.2.1.length N 0 (List.replicate q.1.toNat (-1)) [] [] (by omega) (by omega) (by simp) rfl (by simp only [List.length_nil]; omega)
  unfold impl_FindEmbeddings_c1
  rw [this]
  rfl
theorem validSet_of {n : Nat} {l : List Int} (hs : l.Pairwise (· < ·)) (hin : ∀ x ∈ l, 0 <= x /\ x < (n : Int)) : validSet n l = true := by
 unfold validSet
 rw [decide_eq_true_eq]
 intro j hj
 have h1 := hin _ (List.getElem_mem hj)
 rw [Bool.and_eq_true, decide_eq_true_eq, getD_lt hj]
 refine ⟨by omega, ?_⟩
 by_cases h0 : j = 0
 ·simp [h0]
 ·have h4 : j - 1 < l.length := by omega
  rw [getD_lt h4, decide_eq_true (List.pairwise_iff_getElem.1 hs (j - 1) j h4 hj (by omega)), Bool.or_true]
def subDb (d : Db) (l : List Int) : Db := (d.1, l.map fun x => factAt d x.toNat)
theorem selectV {d : Db} {l : List Int} (h : SmallDb d) (hvb : validDb d = true) (hs : l.Pairwise (· < ·)) (hin : ∀ x ∈ l, 0 <= x /\ x < (d.2.length : Int)) (hl : l.length <= 14) (hN : 1048576 < N) : spec_SelectFacts N d l = some (subDb d l, true) := by
 have hr := h.rels
 unfold spec_SelectFacts spec_SelectFacts_b
 rw [specDb h hN, Option.bind_some, hvb, Bool.not_true, cond_false, specSet h (by omega) hN, Option.bind_some, validSet_of hs hin, Bool.not_true, cond_false, appOk_lt (by omega) (by simp only [List.length_nil]; omega), grd_true]
 have := loop (fun k (s : Nat) => spec_SelectFacts_l0 N k l d.1 d.2 [] [] d.1 ((l.take s).map fun x => factAt d x.toNat) (s : Int)) (fun s => s <= l.length) (fun s => l.length - s) (fun o => o = some (subDb d l, true)) (fun k j hj' => by
  simp only [spec_SelectFacts_l0, spec_SelectFacts_l0_b]
  by_cases hj : j < l.length
  ·right
   refine ⟨j + 1, hj, by omega, ?_⟩
   have h1 : (j : Int) < (l.length : Int) := by omega
   have h2 := hin _ (List.getElem_mem hj)
   have h3 : (l[j]).toNat < d.2.length := by omega
   have e : at_ (0, []) d.2 l[j] = factAt d (l[j]).toNat := by
    have := fact_at h3
    rwa [show (((l[j]).toNat : Nat) : Int) = l[j] by omega] at this
   have h4 := fact_small h h3
   simp only [h1, decide_true, cond_true, inb_lt hj, grd_true, at_lt hj, inb_int h2.1 h2.2, e]
   rw [appOk_lt (by omega) (by simp only [List.length_nil]; omega), grd_true, appOk_lt (by omega) (by simp; omega), grd_true, w64_succ (by omega), List.take_succ_eq_append_getElem hj, List.map_append]
   rfl
  ·left
   have h1 : ¬ (j : Int) < (l.length : Int) := by omega
   simp only [h1, decide_false, cond_false]
   rw [List.take_of_length_le (by omega)]
   rfl) N 0 (by omega) (by omega)
 exact this
theorem factAt_sub {d : Db} {l : List Int} {j : Nat} (hj : j < l.length) : factAt (subDb d l) j = factAt d (l[j]).toNat := by
 show ((l.map fun x => factAt d x.toNat).getD j (0, [])) = _
 rw [getD_lt (by simp; exact hj), List.getElem_map]
theorem sub_valid {d : Db} {l : List Int} (hvb : validDb d = true) (hs : l.Pairwise (· < ·)) (hin : ∀ x ∈ l, 0 <= x /\ x < (d.2.length : Int)) (hl : l.length <= 14) : validDb (subDb d l) = true := by
 have hv := validDb_of hvb
 have hlen : (subDb d l).2.length = l.length := by simp [subDb]
 unfold validDb
 rw [Bool.and_eq_true, Bool.and_eq_true, decide_eq_true_eq, decide_eq_true_eq]
 refine ⟨hv.rels, by omega, fun j hj => ?_⟩
 have hj2 : j < l.length := by omega
 have h1 := hin _ (List.getElem_mem hj2)
 rw [factAt_sub hj2, Bool.and_eq_true]
 refine ⟨hv.fact _ (by omega), ?_⟩
 by_cases h0 : j = 0
 ·simp [h0]
 ·have h4 : j - 1 < l.length := by omega
  have h5 := List.pairwise_iff_getElem.1 hs (j - 1) j h4 hj2 (by omega)
  have h6 := hin _ (List.getElem_mem h4)
  rw [factAt_sub h4, decide_eq_true (hv.lt _ _ (by omega) (by omega)), Bool.or_true]
theorem implCopy {d : Db} (h : SmallDb d) (hf : d.2.length <= 14) (hN : 1048576 < N) : impl_copyDatabase N d = some d := by
 have hr := h.rels
 unfold impl_copyDatabase impl_copyDatabase_b
 rw [appOk_lt (by omega) (by simp only [List.length_nil]; omega), grd_true]
 have := loop (fun k (s : Nat) => impl_copyDatabase_l0 N k [] [] d.1 (d.2.take s) d.2 (d.2.length : Int) (s : Int)) (fun s => s <= d.2.length) (fun s => d.2.length - s) (fun o => o = some d) (fun k j hs => by
  simp only [impl_copyDatabase_l0, impl_copyDatabase_l0_b]
  by_cases hj : j < d.2.length
  ·right
   refine ⟨j + 1, hj, by omega, ?_⟩
   have h1 : (j : Int) < (d.2.length : Int) := by omega
   have h3 := h.vals _ (List.getElem_mem hj)
   simp only [h1, decide_true, cond_true, inb_lt hj, grd_true, at_lt hj]
   rw [appOk_lt (by omega) (by simp only [List.length_nil]; omega), grd_true, appOk_lt (by omega) (by simp; omega), grd_true, w64_succ (by omega), List.take_succ_eq_append_getElem hj]
  ·left
   have h1 : ¬ (j : Int) < (d.2.length : Int) := by omega
   simp only [h1, decide_false, cond_false]
   rw [List.take_of_length_le (by omega)]) N 0 (by omega) (by omega)
 simpa using this
theorem implSel1 {N : Nat} {d : Db} {l : List Int} (hin : ∀ x ∈ l, 0 <= x /\ x < (d.2.length : Int)) (hl : l.length <= 14) : ∀ (f j : Nat), l.length - j < f -> j <= l.length -> impl_SelectFacts_l1 N f [] [] d.1 d.2 d.1 ((l.take j).map fun x => factAt d x.toNat) l (l.length : Int) (j : Int) = some (subDb d l, true)
 | 0, j, hf, _ => by omega
 | f + 1, j, hf, hj' => by
  simp only [impl_SelectFacts_l1, impl_SelectFacts_l1_b]
  by_cases hj : j < l.length
  ·have h1 : (j : Int) < (l.length : Int) := by omega
   have h2 := hin _ (List.getElem_mem hj)
   have h3 : (l[j]).toNat < d.2.length := by omega
   have e : at_ (0, []) d.2 l[j] = factAt d (l[j]).toNat := by
    have := fact_at h3
    rwa [show (((l[j]).toNat : Nat) : Int) = l[j] by omega] at this
   simp only [h1, decide_true, cond_true, inb_lt hj, grd_true, at_lt hj, inb_int h2.1 h2.2, e]
   rw [appOk_lt (by omega) (by simp; omega), grd_true, w64_succ (by omega)]
   have := implSel1 (N := N) hin hl f (j + 1) (by omega) hj
   rw [List.take_succ_eq_append_getElem hj, List.map_append] at this
   exact this
  ·have : j = l.length := by omega
   subst this
   simp only [Int.lt_irrefl, decide_false, cond_false, List.take_length]
   rfl
theorem implSelFacts {d : Db} {l : List Int} (h : SmallDb d) (hvb : validDb d = true) (hs : l.Pairwise (· < ·)) (hin : ∀ x ∈ l, 0 <= x /\ x < (d.2.length : Int)) (hl : l.length <= 14) (hN : 1048576 < N) : impl_SelectFacts N d l = some (subDb d l, true) := by
 have hf := (validDb_of hvb).few
 unfold impl_SelectFacts impl_SelectFacts_b
 rw [implDb h hN, Option.bind_some, hvb, Bool.not_true, cond_false, implSet h.facts (by omega) hN, Option.bind_some, validSet_of hs hin, Bool.not_true, cond_false, implCopy h hf hN, Option.bind_some]
 obtain ⟨M, rfl⟩ : ∃ M, N = M + 1 := ⟨N - 1, by omega⟩
 simp only [impl_SelectFacts_l0, impl_SelectFacts_l0_b]
 by_cases h0 : (0 : Int) < (l.length : Int)
 ·have hj : 0 < l.length := by omega
  have h2 := hin _ (List.getElem_mem hj)
  have h3 : (l[0]).toNat < d.2.length := by omega
  have e : at_ (0, []) d.2 l[0] = factAt d (l[0]).toNat := by
   have := fact_at h3
   rwa [show (((l[0]).toNat : Nat) : Int) = l[0] by omega] at this
  have e0 : at_ 0 l 0 = l[0] := at_lt (j := 0) hj
  have i0 : inb 0 l = true := inb_lt (j := 0) hj
  simp only [decide_eq_true h0, cond_true, i0, grd_true, e0, inb_int h2.1 h2.2, e]
  rw [appOk_lt (by omega) (by simp), grd_true]
  have := implSel1 (N := M + 1) (d := d) hin hl M 1 (by omega) hj
  rw [show w64 ((0 : Int) + 1) = ((1 : Nat) : Int) from w64_succ (j := 0) (by omega)]
  have t1 : l.take 1 = [l[0]] := by
   rw [show 1 = 0 + 1 from rfl, List.take_succ_eq_append_getElem hj]
   simp
  rw [t1] at this
  exact this
 ·have : l = [] := List.length_eq_zero_iff.1 (by omega)
  subst this
  rfl
theorem sub_small {d : Db} {l : List Int} (h : SmallDb d) (hin : ∀ x ∈ l, 0 <= x /\ x < (d.2.length : Int)) (hl : l.length <= 14) : SmallDb (subDb d l) := ⟨h.rels, by simp [subDb]; omega, fun f hf => by
  obtain ⟨x, hx, rfl⟩ := List.mem_map.1 hf
  have := hin x hx
  exact fact_small h (by omega)⟩
theorem implHolds {d : Db} {l : List Int} {q : Qry} (h : SmallDb d) (hvb : validDb d = true) (hs : l.Pairwise (· < ·)) (hin : ∀ x ∈ l, 0 <= x /\ x < (d.2.length : Int)) (hl : l.length <= 14) (hq : q.2.2.length <= 1048576) (hN : 1048576 < N) : impl_HoldsIn N d l q = some (decide (((embs (subDb d l) q).length : Int) > 0)) := by
 unfold impl_HoldsIn
 rw [implSelFacts h hvb hs hin hl hN, Option.bind_some]
 simp only [cond_true]
 rw [implEmbs (sub_small h hin hl) hq hN, Option.bind_some]
def putIn (l : List Int) (x : Int) : Nat -> List Int
 | 0 => x :: l
 | k + 1 => if l.getD k 0 > x then putIn l x k else l.take (k + 1) ++ x :: l.drop (k + 1)
theorem putIn_split (l : List Int) (x : Int) : ∀ k, k <= l.length -> ∃ j, j <= k /\ putIn l x k = l.take j ++ x :: l.drop j /\ (∀ i (hi : i < l.length), j <= i -> i < k -> l[i] > x) /\ (0 < j -> ∃ (hj : j - 1 < l.length), ¬ l[j - 1] > x)
 | 0, _ => ⟨0, Nat.le_refl _, by simp [putIn], fun i hi h1 h2 => by omega, fun h => by omega⟩
 | k + 1, hk => by
  have hk' : k < l.length := by omega
  simp only [putIn, getD_lt hk']
  by_cases h : l[k] > x
  ·rw [if_pos h]
   obtain ⟨j, h1, h2, h3, h4⟩ := putIn_split l x k (by omega)
   refine ⟨j, by omega, h2, fun i hi g1 g2 => ?_, h4⟩
   by_cases e : i = k
   ·subst e; exact h
   ·exact h3 i hi g1 (by omega)
  ·rw [if_neg h]
   exact ⟨k + 1, Nat.le_refl _, rfl, fun i hi g1 g2 => by omega, fun _ => ⟨by omega, by simpa using h⟩⟩
theorem putIn_mem {l : List Int} {x y : Int} : y ∈ putIn l x l.length ↔ y = x \/ y ∈ l := by
 obtain ⟨j, _, e, _, _⟩ := putIn_split l x l.length (Nat.le_refl _)
 rw [e, List.mem_append, List.mem_cons]
 have hl : y ∈ l ↔ y ∈ l.take j \/ y ∈ l.drop j := by
  conv => lhs; rw [<- List.take_append_drop j l]
  rw [List.mem_append]
 rw [hl]
 constructor
 ·rintro (h | h | h)
  ·exact .inr (.inl h)
  ·exact .inl h
  ·exact .inr (.inr h)
 ·rintro (h | h | h)
  ·exact .inr (.inl h)
  ·exact .inl h
  ·exact .inr (.inr h)
theorem putIn_len {l : List Int} {x : Int} : (putIn l x l.length).length = l.length + 1 := by
 obtain ⟨j, hj, e, _, _⟩ := putIn_split l x l.length (Nat.le_refl _)
 rw [e]
 simp only [List.length_append, List.length_take, List.length_cons, List.length_drop]
 omega
def sortI : List Int -> List Int -> List Int
 | [], out => out
 | x :: l, out => sortI l (putIn out x out.length)
theorem specSort1 {N k : Nat} {l out : List Int} {s : Nat} (hs : s < l.length) (hl : l.length <= 1000) (ho : out.length <= 1000) : ∀ (f t : Nat), t < f -> t <= out.length -> spec_l7Sorted_l1 (spec_l7Sorted_l0 N k) N f l out (s : Int) (t : Int) = spec_l7Sorted_l0 N k l (putIn out l[s] t) ((s + 1 : Nat) : Int)
 | 0, t, hf, _ => by omega
 | f + 1, 0, hf, ht => by
  have h2 : ¬ ((0 : Nat) : Int) > 0 := by omega
  simp only [spec_l7Sorted_l1, spec_l7Sorted_l1_b, h2, decide_false, cond_false, Int.toNat_natCast, inb_lt hs, at_lt hs, grd_true]
  rw [show subOk 0 ((0 : Nat) : Int) out.length = true by simp [subOk], grd_true, appOk_lt (by omega) (by simp), grd_true, appOk_lt (by omega) (by simp), grd_true, show subOk ((0 : Nat) : Int) (out.length : Int) out.length = true by simp [subOk], grd_true, appOk_lt (by omega) (by simp; omega), grd_true, w64_succ (by omega)]
  simp [putIn]
 | f + 1, t + 1, hf, ht => by
  have h2 : ((t + 1 : Nat) : Int) > 0 := by omega
  have h3 : t < out.length := ht
  have e1 : w64 (((t + 1 : Nat) : Int) - 1) = (t : Int) := by rw [w64_id (by omega) (by omega)]; omega
  simp only [spec_l7Sorted_l1, spec_l7Sorted_l1_b, h2, decide_true, cond_true, e1, inb_lt h3, at_lt h3, inb_lt hs, at_lt hs, grd_true, putIn, getD_lt h3, Int.toNat_natCast]
  by_cases h : out[t] > l[s]
  ·rw [decide_eq_true h, cond_true, if_pos h]
   exact specSort1 hs hl ho f t (by omega) (by omega)
  ·rw [decide_eq_false h, cond_false, if_neg h]
   rw [show subOk 0 ((t + 1 : Nat) : Int) out.length = true by simp [subOk]; omega, grd_true, appOk_lt (by omega) (by simp; omega), grd_true, appOk_lt (by omega) (by simp; omega), grd_true, show subOk ((t + 1 : Nat) : Int) (out.length : Int) out.length = true by simp [subOk]; omega, grd_true, appOk_lt (by omega) (by simp; omega), grd_true, w64_succ (by omega)]
   simp
theorem sortI_len : ∀ (l out : List Int), (sortI l out).length = l.length + out.length
 | [], out => by simp [sortI]
 | x :: l, out => by rw [sortI, sortI_len l, putIn_len]; simp; omega
theorem sortI_mem {y : Int} : ∀ (l out : List Int), y ∈ sortI l out ↔ y ∈ l \/ y ∈ out
 | [], out => by simp [sortI]
 | x :: l, out => by rw [sortI, sortI_mem l, putIn_mem, List.mem_cons, or_left_comm, or_assoc]
theorem specSort0 {N : Nat} {l : List Int} (hl : l.length <= 900) (hN : 1048576 < N) : ∀ (f s : Nat) (out : List Int), l.length - s < f -> s <= l.length -> out.length = s -> spec_l7Sorted_l0 N f l out (s : Int) = some (sortI (l.drop s) out)
 | 0, s, out, hf, _, _ => by omega
 | f + 1, s, out, hf, hs, ho => by
  simp only [spec_l7Sorted_l0, spec_l7Sorted_l0_b]
  by_cases h : s < l.length
  ·have h1 : (s : Int) < (l.length : Int) := by omega
   rw [decide_eq_true h1, cond_true, specSort1 h (by omega) (by omega) N out.length (by omega) (Nat.le_refl _), specSort0 hl hN f (s + 1) _ (by omega) h (by rw [putIn_len, ho]), List.drop_eq_getElem_cons h, sortI]
  ·have h1 : ¬ (s : Int) < (l.length : Int) := by omega
   rw [decide_eq_false h1, cond_false, List.drop_eq_nil_of_le (by omega), sortI]
theorem specSort {l : List Int} (hl : l.length <= 900) (hN : 1048576 < N) : spec_l7Sorted N l = some (sortI l []) := by
 have := specSort0 hl hN N 0 [] (by omega) (by omega) rfl
 simpa [spec_l7Sorted, spec_l7Sorted_b] using this
theorem putIn_sorted {l : List Int} {x : Int} (hs : l.Pairwise (· < ·)) (hx : x ∉ l) : (putIn l x l.length).Pairwise (· < ·) := by
 obtain ⟨j, hj, e, h3, h4⟩ := putIn_split l x l.length (Nat.le_refl _)
 rw [e]
 have hsplit : (l.take j ++ l.drop j).Pairwise (· < ·) := by rwa [List.take_append_drop]
 rw [List.pairwise_append] at hsplit
 rw [List.pairwise_append, List.pairwise_cons]
 have hlt : ∀ a ∈ l.take j, a < x := by
  intro a ha
  obtain ⟨i, hi, rfl⟩ := List.mem_iff_getElem.1 ha
  have hi' : i < j := by simp at hi; omega
  obtain ⟨hj', hle⟩ := h4 (by omega)
  rw [List.getElem_take]
  have hne : l[j - 1] ≠ x := fun e => hx (e ▸ List.getElem_mem hj')
  have hi2 : i < l.length := by omega
  have : l[i] <= l[j - 1] := by
   by_cases h : i = j - 1
   ·subst h; exact Int.le_refl _
   ·have := List.pairwise_iff_getElem.1 hs i (j - 1) hi2 hj' (by omega)
    omega
  omega
 have hgt : ∀ a ∈ l.drop j, x < a := by
  intro a ha
  obtain ⟨i, hi, rfl⟩ := List.mem_iff_getElem.1 ha
  rw [List.getElem_drop]
  have hi2 : j + i < l.length := by simp at hi; omega
  exact h3 (j + i) hi2 (by omega) hi2
 refine ⟨hsplit.1, ⟨hgt, hsplit.2.1⟩, fun a ha b hb => ?_⟩
 rcases List.mem_cons.1 hb with rfl | hb
 ·exact hlt a ha
 ·exact hsplit.2.2 a ha b hb
theorem sortI_sorted : ∀ (l out : List Int), l.Nodup -> (∀ x ∈ l, x ∉ out) -> out.Pairwise (· < ·) -> (sortI l out).Pairwise (· < ·)
 | [], out, _, _, hs => hs
 | x :: l, out, hn, hd, hs => by
  rw [List.nodup_cons] at hn
  refine sortI_sorted l _ hn.2 (fun y hy h => ?_) (putIn_sorted hs (hd x List.mem_cons_self))
  rcases putIn_mem.1 h with rfl | h
  ·exact hn.1 hy
  ·exact hd y (List.mem_cons_of_mem _ hy) h
def chain (d : Db) (as : List Atm) : Nat -> List Int -> List Int -> Option (List Int)
 | _, x, [] => some x
 | k, x, g :: gs => match meetA (atomAt as k) (factAt d g.toNat) x with
  | some y => chain d as (k + 1) y gs
  | none => none
theorem emb_iff {d : Db} {as : List Atm} {e : List Int × List Int} : ∀ (m k : Nat) (x fs : List Int), e ∈ emb d as m k x fs ↔ ∃ gs : List Int, gs.length = m /\ (∀ g ∈ gs, 0 <= g /\ g < (d.2.length : Int)) /\ chain d as k x gs = some e.1 /\ e.2 = fs ++ gs
 | 0, k, x, fs => by
  simp only [emb, List.mem_singleton]
  constructor
  ·rintro rfl
   exact ⟨[], rfl, by simp, rfl, by simp⟩
  ·rintro ⟨gs, h1, -, h3, h4⟩
   have : gs = [] := List.length_eq_zero_iff.1 h1
   subst this
   simp only [chain, Option.some.injEq] at h3
   obtain ⟨a, b⟩ := e
   simp only [List.append_nil] at h4
   simp only at h3
   rw [h3, h4]
 | m + 1, k, x, fs => by
  simp only [emb, List.mem_flatMap, List.mem_range]
  constructor
  ·rintro ⟨i, hi, he⟩
   split at he
   ·rename_i y hy
    obtain ⟨gs, h1, h2, h3, h4⟩ := (emb_iff m (k + 1) y (fs ++ [(i : Int)])).1 he
    refine ⟨(i : Int) :: gs, by simp [h1], fun g hg => ?_, ?_, by rw [h4, List.append_assoc]; rfl⟩
    ·rcases List.mem_cons.1 hg with rfl | hg
     ·omega
     ·exact h2 g hg
    ·simp only [chain, Int.toNat_natCast, hy]
     exact h3
   ·cases he
  ·rintro ⟨gs, h1, h2, h3, h4⟩
   match gs with
   | [] => simp at h1
   | g :: gs =>
    have hg := h2 g List.mem_cons_self
    refine ⟨g.toNat, by omega, ?_⟩
    simp only [chain] at h3
    split at h3
    ·rename_i y hy
     try simp only [hy]
     refine (emb_iff m (k + 1) y _).2 ⟨gs, by simpa using h1, fun g' hg' => h2 g' (List.mem_cons_of_mem _ hg'), h3, ?_⟩
     rw [h4, List.append_assoc, show ((g.toNat : Nat) : Int) = g by omega]
     rfl
    ·cases h3
theorem chain_rel {d : Db} {as : List Atm} : ∀ (gs : List Int) (k : Nat) (x y : List Int), chain d as k x gs = some y -> ∀ j (h : j < gs.length), (factAt d (gs[j]).toNat).1 = (atomAt as (k + j)).1
 | [], k, x, y, _, j, h => by simp at h
 | g :: gs, k, x, y, hc, j, h => by
  simp only [chain] at hc
  split at hc
  ·rename_i z hz
   cases j with
   | zero =>
    unfold meetA at hz
    split at hz
    ·rename_i e; exact e
    ·cases hz
   | succ j =>
    have := chain_rel gs (k + 1) z y hc j (by simpa using h)
    rw [show k + (j + 1) = k + 1 + j by omega]
    exact this
  ·cases hc
theorem chain_sub {d : Db} {as : List Atm} {s : List Int} : ∀ (gs : List Int) (k : Nat) (x : List Int), (∀ g ∈ gs, 0 <= g /\ g < (s.length : Int)) -> chain (subDb d s) as k x gs = chain d as k x (gs.map fun g => s.getD g.toNat 0)
 | [], k, x, _ => rfl
 | g :: gs, k, x, h => by
  have hg := h g List.mem_cons_self
  have hj : g.toNat < s.length := by omega
  simp only [chain, List.map_cons, factAt_sub hj, getD_lt hj]
  split
  ·exact chain_sub gs _ _ fun g' hg' => h g' (List.mem_cons_of_mem _ hg')
  ·rfl
theorem atoms_apart {d : Db} {q : Qry} (h : queryFor d q = true) {i j : Nat} (hi : i < j) (hj : j < q.2.1.length) : (atomAt q.2.1 i).1 ≠ (atomAt q.2.1 j).1 := by
 unfold queryFor validQ at h
 simp only [Bool.and_eq_true, decide_eq_true_eq] at h
 obtain ⟨_, _, _, _, hok, _, _⟩ := h
 have h1 : atomOk d.1 q.1.toNat q.2.1 j = true := of_decide_eq_true hok j hj
 unfold atomOk at h1
 simp only [Bool.and_eq_true, decide_eq_true_eq] at h1
 have h2 := h1.2.2.1
 unfold newRel at h2
 rw [Bool.not_eq_true', List.any_eq_false] at h2
 intro e
 refine h2 (atomAt q.2.1 i) ?_ (decide_eq_true e)
 have hi' : i < q.2.1.length := by omega
 unfold atomAt
 rw [getD_lt hi']
 exact List.mem_iff_getElem.2 ⟨i, by simp; omega, by rw [List.getElem_take]⟩
structure EmbOk (d : Db) (e : List Int × List Int) : Prop where
 few : e.2.length <= 3
 ins : ∀ x ∈ e.2, 0 <= x /\ x < (d.2.length : Int)
 apart : ∀ i j (hi : i < j) (hj : j < e.2.length), (factAt d (e.2[i]'(by omega)).toNat).1 ≠ (factAt d (e.2[j]).toNat).1
theorem emb_ok {d : Db} {q : Qry} {e : List Int × List Int} (he : e ∈ embs d q) : queryFor d q = true /\ EmbOk d e := by
 unfold embs at he
 split at he
 ·rename_i h
  obtain ⟨gs, h1, h2, h3, h4⟩ := (emb_iff _ _ _ _).1 he
  rw [List.nil_append] at h4
  have h5 := (qOk h).as3
  obtain ⟨a, b⟩ := e
  simp only at h4 h3
  subst h4
  refine ⟨h, ⟨by simp only; omega, h2, fun i j hi hj => ?_⟩⟩
  simp only at hj
  have r1 := chain_rel b 0 _ _ h3 i (by omega)
  have r2 := chain_rel b 0 _ _ h3 j hj
  rw [Nat.zero_add] at r1 r2
  simp only
  rw [r1, r2]
  exact atoms_apart h hi (by omega)
 ·cases he
theorem EmbOk.nodup {d : Db} {e : List Int × List Int} (h : EmbOk d e) : e.2.Nodup := by
 rw [List.Nodup, List.pairwise_iff_getElem]
 intro i j hi hj hij he
 exact h.apart i j hij hj (by rw [he])
theorem holds_iff {d : Db} {q : Qry} {s : List Int} (hvb : validDb d = true) (hs : s.Pairwise (· < ·)) (hin : ∀ x ∈ s, 0 <= x /\ x < (d.2.length : Int)) (hl : s.length <= 14) : (embs (subDb d s) q).length > 0 ↔ ∃ e ∈ embs d q, ∀ x ∈ e.2, x ∈ s := by
 have hq : queryFor (subDb d s) q = queryFor d q := by
  unfold queryFor
  rw [hvb, sub_valid hvb hs hin hl]
  rfl
 have hlen : (subDb d s).2.length = s.length := by simp [subDb]
 unfold embs
 rw [hq]
 by_cases h : queryFor d q = true
 ·rw [if_pos h, if_pos h]
  constructor
  ·intro hp
   obtain ⟨e, he⟩ := List.exists_mem_of_length_pos hp
   obtain ⟨gs, h1, h2, h3, h4⟩ := (emb_iff _ _ _ _).1 he
   rw [hlen] at h2
   rw [chain_sub gs _ _ h2] at h3
   have hm : ∀ g ∈ gs, s.getD g.toNat 0 ∈ s := fun g hg => by
    have := h2 g hg
    rw [getD_lt (show g.toNat < s.length by omega)]
    exact List.getElem_mem _
   refine ⟨(e.1, gs.map fun g => s.getD g.toNat 0), (emb_iff _ _ _ _).2 ⟨gs.map fun g => s.getD g.toNat 0, by simpa using h1, fun g hg => ?_, h3, by simp⟩, fun x hx => ?_⟩
   ·obtain ⟨g', hg', rfl⟩ := List.mem_map.1 hg
    exact hin _ (hm g' hg')
   ·obtain ⟨g', hg', rfl⟩ := List.mem_map.1 hx
    exact hm g' hg'
  ·rintro ⟨e, he, hes⟩
   obtain ⟨gs, h1, h2, h3, h4⟩ := (emb_iff _ _ _ _).1 he
   rw [List.nil_append] at h4
   rw [h4] at hes
   have hidx : ∀ x, x ∈ s -> ∃ j, j < s.length /\ s.getD j 0 = x := fun x hx => by
    obtain ⟨j, hj, e⟩ := List.mem_iff_getElem.1 hx
    exact ⟨j, hj, by rw [getD_lt hj, e]⟩
   have hf : ∀ x ∈ gs, (s.idxOf x) < s.length /\ s.getD (s.idxOf x) 0 = x := fun x hx => by
    have := List.idxOf_lt_length_of_mem (hes x hx)
    exact ⟨this, by rw [getD_lt this]; exact List.getElem_idxOf this⟩
   have hmap : (gs.map fun x => ((s.idxOf x : Nat) : Int)).map (fun g => s.getD g.toNat 0) = gs := by
    rw [List.map_map]
    conv => rhs; rw [<- List.map_id gs]
    exact List.map_congr_left fun x hx => by simpa using (hf x hx).2
   have hr : ∀ g ∈ gs.map (fun x => ((s.idxOf x : Nat) : Int)), 0 <= g /\ g < (s.length : Int) := fun g hg => by
    obtain ⟨x, hx, rfl⟩ := List.mem_map.1 hg
    have := (hf x hx).1
    omega
   refine List.length_pos_of_mem (a := (e.1, gs.map fun x => ((s.idxOf x : Nat) : Int))) ((emb_iff _ _ _ _).2 ⟨gs.map fun x => ((s.idxOf x : Nat) : Int), by simpa using h1, by rw [hlen]; exact hr, ?_, by simp⟩)
   rw [chain_sub _ _ _ hr, hmap]
   exact h3
 ·rw [if_neg h, if_neg h]
  simp
def walk (n : Nat) (E : List (Int × Int)) : Nat -> List Int -> Nat -> List (List Int)
 | 0, s, x => if maxI n E s then [s] else []
 | m + 1, s, x => (if indep E (s ++ [(x : Int)]) then walk n E m (s ++ [(x : Int)]) (x + 1) else []) ++ walk n E m s (x + 1)
theorem walk_len {n : Nat} {E : List (Int × Int)} : ∀ (m : Nat) (s : List Int) (x : Nat), (walk n E m s x).length <= 2 ^ m
 | 0, s, x => by simp only [walk]; split <;> simp
 | m + 1, s, x => by
  have h1 := walk_len (n := n) (E := E) m (s ++ [(x : Int)]) (x + 1)
  have h2 := walk_len (n := n) (E := E) m s (x + 1)
  simp only [walk, List.length_append, Nat.pow_succ]
  split
  ·omega
  ·simp only [List.length_nil]; omega
theorem walk_mem {n : Nat} {E : List (Int × Int)} : ∀ (m : Nat) (s : List Int) (x : Nat), s.length <= x -> ∀ r ∈ walk n E m s x, r.length <= x + m
 | 0, s, x, hs, r, hr => by
  simp only [walk] at hr
  split at hr
  ·simp only [List.mem_singleton] at hr; subst hr; omega
  ·simp at hr
 | m + 1, s, x, hs, r, hr => by
  simp only [walk, List.mem_append] at hr
  rcases hr with hr | hr
  ·split at hr
   ·have := walk_mem m (s ++ [(x : Int)]) (x + 1) (by simp; omega) r hr
    omega
   ·simp at hr
  ·have := walk_mem m s (x + 1) (by omega) r hr
   omega
def touch (x : Int) (e : Int × Int) : Bool := decide (e.1 = x) || decide (e.2 = x)
theorem indep_free {E : List (Int × Int)} {s : List Int} {y : Int} (h : E.any (touch y) = false) (hi : indep E s = true) : indep E (s ++ [y]) = true := by
 unfold indep at *
 rw [List.all_eq_true] at *
 intro e he
 have h1 := hi e he
 have h2 : ¬ (touch y e = true) := fun h3 => by
  have : E.any (touch y) = true := List.any_eq_true.2 ⟨e, he, h3⟩
  rw [h] at this; exact absurd this (by decide)
 have h3 : e.1 ≠ y /\ e.2 ≠ y := by
  simp only [touch, Bool.or_eq_true, decide_eq_true_eq, not_or] at h2
  exact h2
 have m1 : (e.1 ∈ s ++ [y]) ↔ e.1 ∈ s := by simp [h3.1]
 have m2 : (e.2 ∈ s ++ [y]) ↔ e.2 ∈ s := by simp [h3.2]
 simp only [m1, m2]
 exact h1
theorem walk_free {n : Nat} {E : List (Int × Int)} {y : Nat} (hy : y < n) (h : E.any (touch y) = false) : ∀ (m : Nat) (s : List Int) (x : Nat), y < x -> (y : Int) ∉ s -> walk n E m s x = []
 | 0, s, x, hx, hs => by
  simp only [walk]
  rw [if_neg]
  intro hm
  simp only [maxI, Bool.and_eq_true, decide_eq_true_eq] at hm
  have := hm.2.2.2 y hy
  rw [fitsE, decide_eq_false hs, indep_free h hm.2.2.1] at this
  simp at this
 | m + 1, s, x, hx, hs => by
  simp only [walk]
  rw [walk_free hy h m s (x + 1) (by omega) hs, List.append_nil]
  split
  ·exact walk_free hy h m _ (x + 1) (by omega) (by simp only [List.mem_append, List.mem_singleton, not_or]; exact ⟨hs, by omega⟩)
  ·rfl
theorem specMet {N : Nat} {E : List (Int × Int)} (he : E.length <= 196) (Rf : Int -> List (Int × Int) -> List Int -> Int -> Option (List (List Int))) (n : Int) (s : List Int) (x : Nat) (hx : x <= 1000) (out : List (List Int)) :
  ∀ {f j : Nat} {met : Bool}, E.length - j < f -> j <= E.length -> spec_l8Walk_l0 N Rf f n E s x out met (j : Int) = bif met || (E.drop j).any (touch x) then ((Rf n E s ((x + 1 : Nat) : Int)).bind fun r4 => grd (appOk out r4 24) <| some (out ++ r4)) else some out
 | 0, j, met, hf, hj => by omega
 | f + 1, j, met, hf, hj => by
  by_cases h : j < E.length
  ·have e1 : (j : Int) < (E.length : Int) := by omega
   simp only [spec_l8Walk_l0, spec_l8Walk_l0_b, e1, decide_true, cond_true, inb_lt h, grd_true, at_lt h, w64_succ (j := j) (by omega)]
   rw [any_drop h]
   cases met with
   | true => rw [cond_true, specMet he Rf n s x hx out (by omega) h]; rfl
   | false =>
    rw [cond_false, beqI, beqI]
    unfold touch
    cases decide (E[j].1 = (x : Int)) with
    | true => rw [cond_true, specMet he Rf n s x hx out (by omega) h]; rfl
    | false =>
     rw [cond_false, specMet he Rf n s x hx out (by omega) h]
     simp only [Bool.false_or]
     rfl
  ·have : j = E.length := by omega
   subst this
   simp only [spec_l8Walk_l0, spec_l8Walk_l0_b, Int.lt_irrefl, decide_false, cond_false, List.drop_length, List.any_nil, Bool.or_false, w64_succ (j := x) (by omega)]
theorem two14 {m : Nat} (h : m <= 14) : 2 ^ m <= 16384 := Nat.pow_le_pow_right (n := 2) (by decide) h
theorem specWalk {N n : Nat} {E : List (Int × Int)} (h : EOk n E) (hN : 1048576 < N) : ∀ (m f : Nat) (s : List Int) (x : Nat), m < f -> x + m = n -> s.length <= x -> (∀ y ∈ s, y < (x : Int)) -> spec_l8Walk_r N f n E s x = some (walk n E m s x)
 | _, 0, _, _, hf, _, _, _ => by omega
 | 0, f + 1, s, x, hf, hx, hl, hs => by
  have hn := h.few
  obtain rfl : x = n := by omega
  simp only [spec_l8Walk_r, spec_l8Walk_b, beqI, decide_true, cond_true, specMax h (s := s) (by omega) hN, Option.bind_some, walk]
  cases maxI x E s with
  | true => rw [cond_true, appOk_lt (by omega) (by simp only [List.length_nil]; omega)]; rfl
  | false => rfl
 | m + 1, f + 1, s, x, hf, hx, hl, hs => by
  have hn := h.few
  have hne : ¬ (x : Int) = (n : Int) := by omega
  have hxs : (x : Int) ∉ s := fun hm => by have := hs _ hm; omega
  have i1 := specWalk h hN m f (s ++ [(x : Int)]) (x + 1) (by omega) (by omega) (by simp; omega) (fun y hy => by
   simp only [List.mem_append, List.mem_singleton] at hy
   rcases hy with hy | hy
   ·have := hs y hy; omega
   ·omega)
  have i2 := specWalk h hN m f s (x + 1) (by omega) (by omega) (by omega) (fun y hy => by have := hs y hy; omega)
  have p1 := walk_len (n := n) (E := E) m (s ++ [(x : Int)]) (x + 1)
  have p2 := walk_len (n := n) (E := E) m s (x + 1)
  have p3 := two14 (m := m) (by omega)
  have fin : ∀ out : List (List Int), out.length <= 16384 -> spec_l8Walk_l0 N (spec_l8Walk_r N f) N n E s x out false 0 = some (out ++ walk n E m s (x + 1)) := by
   intro out ho
   have := specMet (N := N) h.len (spec_l8Walk_r N f) n s x (by omega) out (f := N) (j := 0) (met := false) (by have := h.len; omega) (by omega)
   rw [show ((0 : Nat) : Int) = 0 from rfl] at this
   rw [this, List.drop_zero, Bool.false_or, i2, Option.bind_some, appOk_lt (by omega) (by omega), grd_true]
   cases ht : E.any (touch x) with
   | true => rfl
   | false => rw [cond_false, walk_free (by omega) ht m s (x + 1) (by omega) hxs, List.append_nil]
  simp only [spec_l8Walk_r, spec_l8Walk_b, beqI, decide_eq_false hne, cond_false, specFits h.len (show s.length <= 900 by omega) hN, Option.bind_some, fitsE, decide_eq_false hxs, Bool.not_false, Bool.true_and, walk]
  cases indep E (s ++ [(x : Int)]) with
  | true =>
   rw [cond_true, appOk_lt (by omega) (by simp only [List.length_nil]; omega), appOk_lt (by omega) (by simp only [List.length_singleton]; omega), grd_true, grd_true, w64_succ (by omega), i1, Option.bind_some, fin _ (by omega)]
   rfl
  | false =>
   rw [cond_false, fin [] (by simp)]
   rfl
theorem implWalk {N n : Nat} {E : List (Int × Int)} (h : EOk n E) (hN : 1048576 < N) : ∀ (m f : Nat) (s : List Int) (x : Nat) (out : List (List Int)), m < f -> x + m = n -> s.length <= x -> out.length + 2 ^ m <= 100000 -> impl_MaximalIndependentSets_c1_r N f x s n E out n E = some (out ++ walk n E m s x)
 | _, 0, _, _, _, hf, _, _, _ => by omega
 | 0, f + 1, s, x, out, hf, hx, hl, ho => by
  have hn := h.few
  obtain rfl : x = n := by omega
  simp only [impl_MaximalIndependentSets_c1_r, impl_MaximalIndependentSets_c1_b, beqI, decide_true, cond_true, implMax h (s := s) (by omega) hN, Option.bind_some, walk]
  cases maxI x E s with
  | true => rw [cond_true, appOk_lt (by omega) (by simp only [List.length_nil]; omega), appOk_lt (by omega) (by simp only [List.length_singleton]; omega)]; rfl
  | false => simp
 | m + 1, f + 1, s, x, out, hf, hx, hl, ho => by
  have hn := h.few
  have hne : ¬ (x : Int) = (n : Int) := by omega
  rw [Nat.pow_succ] at ho
  have p1 := walk_len (n := n) (E := E) m (s ++ [(x : Int)]) (x + 1)
  simp only [impl_MaximalIndependentSets_c1_r, impl_MaximalIndependentSets_c1_b, beqI, decide_eq_false hne, cond_false, cloneOk (N := N) (s := s) (by omega), Option.bind_some]
  rw [appOk_lt (by omega) (by simp only [List.length_singleton]; omega), grd_true, implInd h.len (by simp only [List.length_append, List.length_singleton]; omega) hN, Option.bind_some, w64_succ (by omega)]
  simp only [walk]
  cases indep E (s ++ [(x : Int)]) with
  | true =>
   rw [cond_true, implWalk h hN m f (s ++ [(x : Int)]) (x + 1) out (by omega) (by omega) (by simp; omega) (by omega), Option.bind_some, implWalk h hN m f s (x + 1) _ (by omega) (by omega) (by omega) (by rw [List.length_append]; omega), Option.bind_some, List.append_assoc]
   rfl
  | false =>
   rw [cond_false, implWalk h hN m f s (x + 1) out (by omega) (by omega) (by omega) (by omega), Option.bind_some]
   rfl
theorem edges_ok {d : Db} {l : List Con} (hv : ValidDb d) : EOk d.2.length (edgesOf d l) := by
 refine ⟨hv.few, edges_len hv l, fun e he => ?_⟩
 unfold edgesOf at he
 obtain ⟨i, hi, he⟩ := List.mem_flatMap.1 he
 unfold edgeR at he
 obtain ⟨k, hk, he⟩ := List.mem_flatMap.1 he
 unfold edgeP at he
 have h1 := List.mem_range.1 hi
 have h2 := List.mem_range'.1 hk
 obtain ⟨q, h3, h4⟩ := h2
 split at he
 ·simp only [List.mem_singleton] at he
  subst he
  simp only
  omega
 ·simp at he
def maxSets (n : Nat) (E : List (Int × Int)) : List (List Int) := if validE E then walk n E n [] 0 else []
theorem specSets {N n : Nat} {E : List (Int × Int)} (h : EOk n E) (hN : 1048576 < N) : spec_MaximalIndependentSets N n E = some (maxSets n E) := by
 have hn := h.few
 unfold spec_MaximalIndependentSets spec_l8Walk maxSets
 rw [specVE h hN, Option.bind_some]
 cases validE E with
 | false => rfl
 | true =>
  have := specWalk h hN n N [] 0 (by omega) (by omega) (by simp) (by simp)
  rw [show ((0 : Nat) : Int) = 0 from rfl] at this
  rw [Bool.not_true, cond_false, this]
  rfl
theorem implSets {N n : Nat} {E : List (Int × Int)} (h : EOk n E) (hN : 1048576 < N) : impl_MaximalIndependentSets N n E = some (maxSets n E) := by
 have hn := h.few
 have p := two14 hn
 unfold impl_MaximalIndependentSets impl_MaximalIndependentSets_c1 maxSets
 rw [implVE h hN, Option.bind_some]
 cases validE E with
 | false => rfl
 | true =>
  have := implWalk h hN n N [] 0 [] (by omega) (by omega) (by simp) (by simp only [List.length_nil]; omega)
  rw [show ((0 : Nat) : Int) = 0 from rfl] at this
  rw [Bool.not_true, cond_false, this]
  rfl
def subsets (d : Db) (l : List Con) : List (List Int) := if validDb d then maxSets d.2.length (edgesOf d l) else []
theorem specSubsets {d : Db} {l : List Con} (h : SmallDb d) (hl : l.length <= 1048576) (hN : 1048576 < N) : spec_SubsetRepairs N d l = some (subsets d l) := by
 unfold spec_SubsetRepairs subsets
 rw [specDb h hN, Option.bind_some]
 cases hv : validDb d with
 | false => rfl
 | true =>
  rw [Bool.not_true, cond_false, specEdges h hl hN, Option.bind_some, hv, if_pos rfl, specSets (edges_ok (validDb_of hv)) hN]
  rfl
theorem implSubsets {d : Db} {l : List Con} (h : SmallDb d) (hl : l.length <= 1048576) (hN : 1048576 < N) : impl_SubsetRepairs N d l = some (subsets d l) := by
 unfold impl_SubsetRepairs subsets
 rw [implDb h hN, Option.bind_some]
 cases hv : validDb d with
 | false => rfl
 | true =>
  rw [Bool.not_true, cond_false, implEdges h hl hN, Option.bind_some, hv, if_pos rfl, implSets (edges_ok (validDb_of hv)) hN]
  rfl
theorem subsets_few (d : Db) (l : List Con) : (subsets d l).length <= 16384 /\ ∀ r ∈ subsets d l, r.length <= 14 := by
 unfold subsets
 by_cases hv : validDb d = true
 ·rw [if_pos hv]
  have hn := (validDb_of hv).few
  unfold maxSets
  split
  ·refine ⟨Nat.le_trans (walk_len _ _ _) (two14 hn), fun r hr => ?_⟩
   have := walk_mem d.2.length [] 0 (by simp) r hr
   omega
  ·exact ⟨by simp, by simp⟩
 ·rw [if_neg hv]; exact ⟨by simp, by simp⟩
theorem validSet_sorted {n : Nat} {l : List Int} (h : validSet n l = true) : l.Pairwise (· < ·) := by
 have step : ∀ j (hj : j < l.length), 0 < j -> l[j - 1]'(by omega) < l[j] := by
  intro j hj h0
  have := of_decide_eq_true h j hj
  rw [Bool.and_eq_true, Bool.or_eq_true, decide_eq_true_eq, decide_eq_true_eq, decide_eq_true_eq, getD_lt hj, getD_lt (show j - 1 < l.length by omega)] at this
  rcases this.2 with h1 | h1
  ·omega
  ·exact h1
 rw [List.pairwise_iff_getElem]
 intro i j hi hj hij
 induction j with
 | zero => omega
 | succ j ih =>
  have hs := step (j + 1) hj (by omega)
  simp only [Nat.add_sub_cancel] at hs
  by_cases e : i = j
  ·subst e; exact hs
  ·have := ih (by omega) (by omega)
   omega
theorem walk_valid {n : Nat} {E : List (Int × Int)} : ∀ (m : Nat) (s : List Int) (x : Nat), ∀ r ∈ walk n E m s x, validSet n r = true
 | 0, s, x, r, hr => by
  simp only [walk] at hr
  split at hr
  ·rename_i hm
   simp only [List.mem_singleton] at hr
   subst hr
   simp only [maxI, Bool.and_eq_true] at hm
   exact hm.2.1
  ·simp at hr
 | m + 1, s, x, r, hr => by
  simp only [walk, List.mem_append] at hr
  rcases hr with hr | hr
  ·split at hr
   ·exact walk_valid m _ _ r hr
   ·simp at hr
  ·exact walk_valid m _ _ r hr
theorem subsets_sorted (d : Db) (l : List Con) : ∀ r ∈ subsets d l, r.Pairwise (· < ·) := by
 intro r hr
 unfold subsets at hr
 by_cases hv : validDb d = true
 ·rw [if_pos hv] at hr
  unfold maxSets at hr
  split at hr
  ·exact validSet_sorted (walk_valid _ _ _ r hr)
  ·simp at hr
 ·rw [if_neg hv] at hr; simp at hr
def cov (d : Db) (q : Qry) (s : List Int) : Bool := (embs d q).any fun e => e.2.all fun x => decide (x ∈ s)
def need (d : Db) (q : Qry) : List (List Int) := (embs d q).map fun e => sortI e.2 []
theorem cov_holds {d : Db} {q : Qry} {s : List Int} (hvb : validDb d = true) (hs : s.Pairwise (· < ·)) (hin : ∀ x ∈ s, 0 <= x /\ x < (d.2.length : Int)) (hl : s.length <= 14) : decide (((embs (subDb d s) q).length : Int) > 0) = cov d q s := by
 rw [Bool.eq_iff_iff, decide_eq_true_eq]
 unfold cov
 simp only [List.any_eq_true, List.all_eq_true, decide_eq_true_eq]
 rw [show (((embs (subDb d s) q).length : Int) > 0) ↔ (embs (subDb d s) q).length > 0 by omega, holds_iff hvb hs hin hl]
theorem embs_few {d : Db} {q : Qry} : (embs d q).length <= 2744 := by
 unfold embs
 split
 ·rename_i h
  have ho := qOk h
  exact Nat.le_trans (emb_len ho.few _ _ _ _) (p14 ho.as3)
 ·simp
theorem need_in {d : Db} {q : Qry} {e : List Int × List Int} (he : e ∈ embs d q) : (sortI e.2 []).Pairwise (· < ·) /\ (∀ x ∈ sortI e.2 [], 0 <= x /\ x < (d.2.length : Int)) /\ (sortI e.2 []).length <= 3 := by
 obtain ⟨h, ho⟩ := emb_ok he
 refine ⟨sortI_sorted _ _ ho.nodup (by simp) List.Pairwise.nil, fun x hx => ?_, ?_⟩
 ·rw [sortI_mem] at hx
  rcases hx with hx | hx
  ·exact ho.ins x hx
  ·cases hx
 ·have := ho.few
  rw [sortI_len]; simp; omega
theorem apart_sort {d : Db} {e : List Int × List Int} (ho : EmbOk d e) : ∀ x ∈ sortI e.2 [], ∀ y ∈ sortI e.2 [], x ≠ y -> (factAt d x.toNat).1 ≠ (factAt d y.toNat).1 := by
 intro x hx y hy hxy
 rw [sortI_mem] at hx hy
 have hx := hx.resolve_right (by simp)
 have hy := hy.resolve_right (by simp)
 obtain ⟨i, hi, rfl⟩ := List.mem_iff_getElem.1 hx
 obtain ⟨j, hj, rfl⟩ := List.mem_iff_getElem.1 hy
 rcases Nat.lt_trichotomy i j with h | h | h
 ·exact ho.apart i j h hj
 ·subst h; exact absurd rfl hxy
 ·exact fun e => ho.apart j i h hi e.symm
theorem partial_ok {d : Db} {q : Qry} {e : List Int × List Int} (h : SmallDb d) (he : e ∈ embs d q) (hN : 1048576 < N) : spec_IsPartialRepair N d (sortI e.2 []) = some true := by
 obtain ⟨hq, ho⟩ := emb_ok he
 obtain ⟨l1, l2, l3⟩ := need_in he
 have hvb : validDb d = true := by unfold queryFor at hq; rw [Bool.and_eq_true] at hq; exact hq.1
 have hap := apart_sort ho
 generalize sortI e.2 [] = w at l1 l2 l3 hap
 have hsub := sub_valid hvb l1 l2 (by omega)
 have hsm := sub_small h l2 (by omega)
 have hlen : (subDb d w).2.length = w.length := by simp [subDb]
 have hst : (blocksOf (subDb d w)).length = w.length := by
  unfold blocksOf
  rw [if_pos hsub, List.length_map]
  unfold B
  rw [List.length_map, hlen]
  unfold sts
  rw [List.filter_eq_self.2, List.length_range]
  intro s hs
  have hs := List.mem_range.1 hs
  rw [isSt_iff]
  intro k hk
  have hk' : k < w.length := by omega
  have h1 := List.pairwise_iff_getElem.1 l1 k s hk' hs hk
  have := hap _ (List.getElem_mem hs) _ (List.getElem_mem hk') (by omega)
  unfold sameD sameK
  rw [factAt_sub hs, factAt_sub hk', decide_eq_false this, Bool.false_and]
 unfold spec_IsPartialRepair
 rw [selectV h hvb l1 l2 (by omega) hN, Option.bind_some]
 simp only [cond_true]
 unfold spec_IsConsistent
 rw [specDb hsm hN, Option.bind_some, hsub, cond_true, specBlocks hsm hN, Option.bind_some, hst, hlen]
 simp
theorem specWitnesses {d : Db} {q : Qry} (h : SmallDb d) (hq : q.2.2.length <= 1048576) (hN : 1048576 < N) : spec_Witnesses N d q = some (need d q) := by
 have hfew := embs_few (d := d) (q := q)
 unfold spec_Witnesses spec_Witnesses_b
 rw [specEmbs h hq hN, Option.bind_some]
 have := loop (fun k (s : Nat) => spec_Witnesses_l0 N k d.1 d.2 (((embs d q).take s).map fun e => sortI e.2 []) (embs d q) (s : Int)) (fun s => s <= (embs d q).length) (fun s => (embs d q).length - s) (fun o => o = some (need d q)) (fun k j hj' => by
  simp only [spec_Witnesses_l0, spec_Witnesses_l0_b]
  by_cases hj : j < (embs d q).length
  ·right
   refine ⟨j + 1, hj, by omega, ?_⟩
   have h1 : (j : Int) < ((embs d q).length : Int) := by omega
   have hm := List.getElem_mem hj
   have hfs := (emb_ok hm).2.few
   have hp : spec_IsPartialRepair N (d.1, d.2) (sortI ((embs d q)[j]).2 []) = some true := partial_ok h hm hN
   simp only [h1, decide_true, cond_true, inb_lt hj, grd_true, at_lt hj]
   rw [specSort (by omega) hN, Option.bind_some, hp, Option.bind_some, cond_true, appOk_lt (by omega) (by simp; omega), grd_true, w64_succ (by omega), List.take_succ_eq_append_getElem hj, List.map_append]
   rfl
  ·left
   have h1 : ¬ (j : Int) < ((embs d q).length : Int) := by omega
   simp only [h1, decide_false, cond_false]
   rw [List.take_of_length_le (by omega)]
   rfl) N 0 (by omega) (by omega)
 exact this
theorem specMet1 {N k : Nat} {l : List (List Int)} {s : List Int} (hs : s.length <= 1048576) (hN : 1048576 < N) {i : Nat} (hi : i < l.length) (hil : i <= 1048576) : ∀ (f t : Nat) (b : Bool), (l[i]).length - t < f -> t <= (l[i]).length -> (l[i]).length <= 1048576 -> spec_l13Met_l1 (spec_l13Met_l0 N k) N f l s (i : Int) b (t : Int) = if (b && ((l[i]).drop t).all fun x => decide (x ∈ s)) then some true else spec_l13Met_l0 N k l s ((i + 1 : Nat) : Int)
 | 0, t, b, hf, _, _ => by omega
 | f + 1, t, b, hf, ht, hw => by
  simp only [spec_l13Met_l1, spec_l13Met_l1_b, inb_lt hi, at_lt hi, grd_true]
  by_cases h : t < (l[i]).length
  ·have h1 : (t : Int) < ((l[i]).length : Int) := by omega
   rw [decide_eq_true h1, cond_true, inb_lt h, at_lt h, grd_true, w64_succ (by omega), List.drop_eq_getElem_cons h, List.all_cons]
   cases b with
   | false =>
    rw [cond_false, specMet1 hs hN hi hil f (t + 1) false (by omega) h hw]
    simp
   | true =>
    rw [cond_true, specHas hs hN, Option.bind_some, specMet1 hs hN hi hil f (t + 1) _ (by omega) h hw]
    simp
  ·have h1 : ¬ (t : Int) < ((l[i]).length : Int) := by omega
   rw [decide_eq_false h1, cond_false, List.drop_eq_nil_of_le (by omega), w64_succ (by omega)]
   cases b <;> simp
theorem specCovered {l : List (List Int)} {s : List Int} (hs : s.length <= 1048576) (hl : l.length <= 1048576) (hw : ∀ w ∈ l, w.length <= 1048575) (hN : 1048576 < N) : spec_IsCovered N l s = some (l.any fun w => w.all fun x => decide (x ∈ s)) := by
 unfold spec_IsCovered spec_l13Met spec_l13Met_b
 rw [everyE (n := l.length) (fun j => !((l.getD j []).all fun x => decide (x ∈ s))) (some true) (some false) (fun k i => spec_l13Met_l0 N k l s i) (fun k => by simp [spec_l13Met_l0, spec_l13Met_l0_b]) (fun k j hj => ?_) (by omega)]
 ·by_cases h : (l.any fun w => w.all fun x => decide (x ∈ s)) = true
  ·rw [h, if_neg, Option.bind_some]
   intro h'
   obtain ⟨w, hw, hx⟩ := List.any_eq_true.1 h
   obtain ⟨j, hj, rfl⟩ := List.mem_iff_getElem.1 hw
   have := h' j hj
   rw [getD_lt hj, hx] at this
   cases this
  ·rw [Bool.not_eq_true] at h
   rw [h, if_pos, Option.bind_some]
   intro j hj
   have := (List.any_eq_false.1 h) _ (List.getElem_mem hj)
   rw [getD_lt hj]
   simpa using this
 ·have h1 : (j : Int) < (l.length : Int) := by omega
  have h2 := hw _ (List.getElem_mem hj)
  simp only [spec_l13Met_l0, spec_l13Met_l0_b, h1, decide_true, cond_true]
  have := specMet1 (k := k) (l := l) hs hN hj (by omega) N 0 true (by omega) (by omega) (by omega)
  rw [List.drop_zero, Bool.true_and] at this
  rw [show ((0 : Nat) : Int) = 0 from rfl] at this
  rw [this, getD_lt hj]
  cases (l[j].all fun x => decide (x ∈ s)) <;> simp
theorem specCov {d : Db} {q : Qry} {s : List Int} (hs : s.length <= 1048576) (hN : 1048576 < N) : spec_IsCovered N (need d q) s = some (cov d q s) := by
 have hfew := embs_few (d := d) (q := q)
 rw [specCovered hs (by unfold need; rw [List.length_map]; omega) (fun w hw => by
  unfold need at hw
  obtain ⟨e, he, rfl⟩ := List.mem_map.1 hw
  have := (need_in he).2.2
  omega) hN]
 unfold need cov
 rw [List.any_map]
 congr 1
 apply congrArg (fun p => List.any (embs d q) p)
 funext e
 simp only [Function.comp]
 rw [Bool.eq_iff_iff]
 simp [List.all_eq_true, sortI_mem]
theorem subsets_at {d : Db} {l : List Con} {r : List Int} (hr : r ∈ subsets d l) : validDb d = true /\ r.Pairwise (· < ·) /\ (∀ x ∈ r, 0 <= x /\ x < (d.2.length : Int)) /\ r.length <= 14 := by
 have h14 := (subsets_few d l).2 r hr
 have hso := subsets_sorted d l r hr
 unfold subsets at hr
 by_cases hv : validDb d = true
 ·rw [if_pos hv] at hr
  unfold maxSets at hr
  split at hr
  ·have := of_decide_eq_true (walk_valid _ _ _ r hr)
   refine ⟨hv, hso, fun x hx => ?_, h14⟩
   obtain ⟨j, hj, rfl⟩ := List.mem_iff_getElem.1 hx
   have h1 := this j hj
   rw [getD_lt hj] at h1
   simp only [Bool.and_eq_true, decide_eq_true_eq] at h1
   omega
  ·simp at hr
 ·rw [if_neg hv] at hr; simp at hr
def holdN (d : Db) (l : List Con) (q : Qry) : Nat := if queryFor d q then ((subsets d l).filter (cov d q)).length else 0
theorem filter_take {α : Type} {p : α -> Bool} {l : List α} {j : Nat} (hj : j < l.length) : ((l.take (j + 1)).filter p).length = ((l.take j).filter p).length + if p l[j] then 1 else 0 := by
 rw [List.take_succ_eq_append_getElem hj, List.filter_append, List.length_append]
 congr 1
 by_cases h : p l[j] <;> simp [h]
theorem specCounts {d : Db} {l : List Con} {q : Qry} (h : SmallDb d) (hl : l.length <= 1048576) (hq : q.2.2.length <= 1048576) (hN : 1048576 < N) : spec_SubsetCounts N d l q = some ((holdN d l q : Int), ((subsets d l).length : Int)) := by
 have hfew := (subsets_few d l).1
 unfold spec_SubsetCounts spec_SubsetCounts_b
 rw [specSubsets h hl hN, Option.bind_some, specWitnesses h hq hN, Option.bind_some]
 have hqf : spec_IsQueryFor N (d.1, d.2) (q.1, q.2.1, q.2.2) = some (queryFor d q) := specQueryFor h hq hN
 cases hv : queryFor d q with
 | false =>
  obtain ⟨M, rfl⟩ : ∃ M, N = M + 1 := ⟨N - 1, by omega⟩
  unfold holdN
  simp only [spec_SubsetCounts_l0, spec_SubsetCounts_l0_b, hqf, hv, Option.bind_some, cond_false, Bool.false_eq_true, if_false]
  cases decide ((0 : Int) < ((subsets d l).length : Int)) <;> rfl
 | true =>
  unfold holdN
  rw [hv, if_pos rfl]
  have := loop (fun k (s : Nat) => spec_SubsetCounts_l0 N k d.1 d.2 q.1 q.2.1 q.2.2 ((((subsets d l).take s).filter (cov d q)).length : Int) (subsets d l) (need d q) (s : Int)) (fun s => s <= (subsets d l).length) (fun s => (subsets d l).length - s) (fun o => o = some ((((subsets d l).filter (cov d q)).length : Int), ((subsets d l).length : Int))) (fun k j hj' => by
   simp only [spec_SubsetCounts_l0, spec_SubsetCounts_l0_b]
   by_cases hj : j < (subsets d l).length
   ·right
    refine ⟨j + 1, hj, by omega, ?_⟩
    have h1 : (j : Int) < ((subsets d l).length : Int) := by omega
    have h14 := (subsets_few d l).2 _ (List.getElem_mem hj)
    have hc : (((subsets d l).take j).filter (cov d q)).length <= 16384 := Nat.le_trans (List.length_filter_le _ _) (by rw [List.length_take]; omega)
    rw [decide_eq_true h1, cond_true, hqf, Option.bind_some, hv, cond_true, inb_lt hj, grd_true, at_lt hj, specCov (by omega) hN, Option.bind_some, w64_succ (j := j) (by omega), filter_take hj]
    cases hcv : cov d q (subsets d l)[j] with
    | true => rw [cond_true, w64_succ (by omega), if_pos rfl]
    | false => simp only [cond_false, Bool.false_eq_true, if_false, Nat.add_zero]
   ·left
    have h1 : ¬ (j : Int) < ((subsets d l).length : Int) := by omega
    rw [decide_eq_false h1, cond_false, List.take_of_length_le (by omega)]) N 0 (by omega) (by omega)
  exact this
theorem implHold {d : Db} {l : List Con} {q : Qry} (h : SmallDb d) (hq : q.2.2.length <= 1048576) (hN : 1048576 < N) {j : Nat} (hj : j < (subsets d l).length) : impl_HoldsIn N (d.1, d.2) (subsets d l)[j] (q.1, q.2.1, q.2.2) = some (cov d q (subsets d l)[j]) := by
 obtain ⟨hvb, h1, h2, h3⟩ := subsets_at (List.getElem_mem hj)
 have := implHolds (q := q) h hvb h1 h2 h3 hq hN
 rw [cov_holds hvb h1 h2 h3] at this
 exact this
theorem implCounts {d : Db} {l : List Con} {q : Qry} (h : SmallDb d) (hl : l.length <= 1048576) (hq : q.2.2.length <= 1048576) (hN : 1048576 < N) : impl_SubsetCounts N d l q = some ((holdN d l q : Int), ((subsets d l).length : Int)) := by
 have hfew := (subsets_few d l).1
 unfold impl_SubsetCounts impl_SubsetCounts_b
 rw [implSubsets h hl hN, Option.bind_some]
 have hqf : impl_IsQueryFor N (d.1, d.2) (q.1, q.2.1, q.2.2) = some (queryFor d q) := implQueryFor h hq hN
 have := loop (fun k (s : Nat) => impl_SubsetCounts_l0 N k d.1 d.2 q.1 q.2.1 q.2.2 ((if queryFor d q then (((subsets d l).take s).filter (cov d q)).length else 0 : Nat) : Int) (subsets d l) (subsets d l) ((subsets d l).length : Int) (s : Int)) (fun s => s <= (subsets d l).length) (fun s => (subsets d l).length - s) (fun o => o = some ((holdN d l q : Int), ((subsets d l).length : Int))) (fun k j hj' => by
  simp only [impl_SubsetCounts_l0, impl_SubsetCounts_l0_b]
  by_cases hj : j < (subsets d l).length
  ·right
   refine ⟨j + 1, hj, by omega, ?_⟩
   have h1 : (j : Int) < ((subsets d l).length : Int) := by omega
   have hc : (((subsets d l).take j).filter (cov d q)).length <= 16384 := Nat.le_trans (List.length_filter_le _ _) (by rw [List.length_take]; omega)
   rw [decide_eq_true h1, cond_true, inb_lt hj, grd_true, at_lt hj, hqf, Option.bind_some, w64_succ (j := j) (by omega)]
   cases hv : queryFor d q with
   | false => rfl
   | true =>
    rw [cond_true, implHold h hq hN hj, Option.bind_some, if_pos rfl, if_pos rfl, filter_take hj]
    cases hcv : cov d q (subsets d l)[j] with
    | true => rw [cond_true, w64_succ (by omega), if_pos rfl]
    | false => simp only [cond_false, Bool.false_eq_true, if_false, Nat.add_zero]
  ·left
   have h1 : ¬ (j : Int) < ((subsets d l).length : Int) := by omega
   rw [decide_eq_false h1, cond_false, List.take_of_length_le (by omega)]
   rfl) N 0 (by omega) (by omega)
 simpa using this
theorem law_SubsetCounts (hN : 1048576 < N) {d : T_Database} {l : T_DenialConstraintS} {q : T_Query} (hd : in_Database d) (hl : in_DenialConstraintS l) (hq : in_Query q) : laws_FnExactSubsetCounts N d l q = some true := by
 unfold laws_FnExactSubsetCounts
 rw [fsz_Database hd (by omega) (by omega) hN, Option.bind_some]
 by_cases h1 : (s_Database d : Int) <= 1048576
 case neg => rw [sub1_neg h1]; rfl
 rw [sub1_pos h1, not_neg (by omega), cond_false, fsz_DenialConstraintS hl (by omega) (by omega) hN, Option.bind_some]
 by_cases h2 : (s_DenialConstraintS l : Int) <= 1048576 - (s_Database d : Int)
 case neg => rw [sub1_neg h2]; rfl
 rw [sub1_pos h2, not_neg (by omega), cond_false, fsz_Query hq (by omega) (by omega) hN, Option.bind_some]
 by_cases h3 : (s_Query q : Int) <= 1048576 - (s_Database d : Int) - (s_DenialConstraintS l : Int)
 case neg => rw [sub1_neg h3]; rfl
 rw [sub1_pos h3, not_neg (by omega), cond_false]
 have hb : b_Database d := b_of_Database (by omega)
 have hbl : b_DenialConstraintS l := b_of_DenialConstraintS (by omega)
 have hbq : b_Query q := b_of_Query (by omega)
 have hs := smallOf hb
 have hll : l.length <= 1048576 := hbl
 have hq4 : q.2.2.length <= 1048576 := hbq.2
 simp only [fto_Database hb hN, fto_DenialConstraintS hbl hN, fto_Query hbq hN, Option.bind_some, specCounts hs hll hq4 hN, implCounts hs hll hq4 hN, feq_Database hb hN, feq_DenialConstraintS hbl hN, feq_Query hbq hN, decide_true, Bool.not_true, cond_false]
 simp
end Go.PL
