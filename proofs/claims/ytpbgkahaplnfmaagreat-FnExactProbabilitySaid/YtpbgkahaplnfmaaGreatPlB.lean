/- The plain law of the functions read plainly. Conditions: those that stand in each theorem. -/
import Derived.Test.YtpbgkahaplnfmaaGreatPlA

set_option linter.unusedVariables false
set_option linter.unusedSimpArgs false
set_option linter.unnecessarySimpa false

namespace Go.PL
variable {N : Nat}
theorem Y5 {x : Int} (h1 : -9223372036854775808 <= x) (h2 : x <= 9223372036854775807) : w64 x = x := by
 unfold w64 IntKind.wrap
 simp [IntKind.bits, IntKind.signed]
 omega
theorem Y1 {j : Nat} (h : j < 4611686018427387904) : w64 ((j : Int) + 1) = ((j + 1 : Nat) : Int) := by
 rw [Y5 (by omega) (by omega)]; omega
@[simp] theorem grd_true {α : Type} (x : Option α) : grd true x = x := rfl
@[simp] theorem grd_false {α : Type} (x : Option α) : grd false x = none := rfl
theorem Yp {α : Type} {b : Int} (h : b ≠ 0) (x : Option α) : grz b x = x := by simp [grz, h]
@[simp] theorem letv_eq {α β : Type} (v : α) (k : α -> β) : letv v k = k v := rfl
theorem Y72 {α : Type} (j : Nat) (xs : List α) : inb (j : Int) xs = decide (j < xs.length) := by
 simp [inb]
theorem Y0 {α : Type} {j : Nat} {xs : List α} (h : j < xs.length) : inb (j : Int) xs = true := by simp [Y72, h]
theorem Y2 {α : Type} {d : α} {j : Nat} {xs : List α} (h : j < xs.length) : at_ d xs (j : Int) = xs[j] := by simp [at_, h]
theorem Yq {n : Nat} {b : Nat} (h : n * b <= 140737488355328) : makeOk (n : Int) b = true := by
 have h1 : (n : Int) * (b : Int) <= 140737488355328 := by rw [<- Int.natCast_mul]; omega
 have h2 : (0 : Int) <= n := by omega
 simp only [makeOk, h1, h2, decide_true, Bool.and_self]
theorem Y2c (bs : ByteArray) : ∀ (m i : Nat) (r : List UInt8), bs.size - i = m -> ByteArray.toList.loop bs i r = r.reverse ++ bs.data.toList.drop i
 | 0, i, r, h => by
  have hs : bs.data.toList.length = bs.size := rfl
  unfold ByteArray.toList.loop
  rw [if_neg (by omega), List.drop_of_length_le (by omega)]; simp
 | m + 1, i, r, h => by
  have hs : bs.data.toList.length = bs.size := rfl
  unfold ByteArray.toList.loop
  rw [if_pos (by omega), Y2c bs m (i + 1) _ (by omega)]
  have hi : i < bs.data.toList.length := by omega
  rw [List.drop_eq_getElem_cons hi]
  have hi2 : i < bs.data.size := by simpa using hi
  have : bs.get! i = bs.data.toList[i] := by
   show bs.data[i]! = _
   rw [getElem!_pos bs.data i hi2]; simp
  rw [this]; simp
theorem Y1i (bs : ByteArray) : bs.toList = bs.data.toList := by
 unfold ByteArray.toList; rw [Y2c bs _ 0 [] rfl]; simp
theorem Y1j (a b : ByteArray) : seq a b = decide (a = b) := by
 unfold seq
 rw [Y1i, Y1i]
 by_cases h : a = b
 ·subst h; simp
 ·have : ¬ a.data = b.data := fun h2 => h (ByteArray.ext h2)
  simp [h, this]
theorem bneI (a b : Int) : (a != b) = !decide (a = b) := by by_cases h : a = b <;> simp [h]
theorem beqI (a b : Int) : (a == b) = decide (a = b) := by by_cases h : a = b <;> simp [h]
theorem Yx {p : Prop} [Decidable p] {α : Type} (x y : Option α) : (bif !decide p then x else y) = if decide p then y else x := by by_cases h : p <;> simp [h]
theorem loop {σ R : Type} (f : Nat -> σ -> Option R) (I : σ -> Prop) (μ : σ -> Nat) (Q : Option R -> Prop) (hstep : ∀ k s, I s -> Q (f (k + 1) s) \/ ∃ s', I s' /\ μ s' < μ s /\ f (k + 1) s = f k s') : ∀ (k : Nat) (s : σ), μ s < k -> I s -> Q (f k s)
 | 0, s, hk, hs => by omega
 | k + 1, s, hk, hs => by
  rcases hstep k s hs with h | ⟨s', h1, h2, h3⟩
  ·exact h
  ·rw [h3]
   exact loop f I μ Q hstep k s' (by omega) h1
theorem Y3a {α : Type} {out a : List α} {j : Nat} {y : α} (h1 : j < a.length) (h2 : j < out.length) (ht : out.take j = a.take j) (hy : y = a[j]) : (out.set j y).take (j + 1) = a.take (j + 1) := by
 subst hy
 rw [List.take_set, List.take_succ_eq_append_getElem h2, List.take_succ_eq_append_getElem h1, ht]
 simp [List.set_append_right, List.length_take, Nat.min_eq_left (Nat.le_of_lt h1)]
theorem fill {β : Type} {b : List β} (f : Nat -> List β -> Int -> Option (List β)) (hend : ∀ k out, f (k + 1) out (b.length : Int) = some out)
  (hstep : ∀ k out j (h : j < b.length), out.length = b.length -> f (k + 1) out (j : Int) = f k (out.set j b[j]) ((j + 1 : Nat) : Int)) {k : Nat} (hk : b.length < k) {out : List β} (ho : out.length = b.length) : f k out 0 = some b := by
 have := loop (fun k (s : List β × Nat) => f k s.1 (s.2 : Int)) (fun s => s.1.length = b.length /\ s.2 <= b.length /\ s.1.take s.2 = b.take s.2) (fun s => b.length - s.2) (fun o => o = some b) (fun k s hs => by
  obtain ⟨out, j⟩ := s
  obtain ⟨h1, h2, h3⟩ := hs
  simp only at h1 h2 h3 ⊢
  by_cases hj : j < b.length
  ·right
   exact ⟨(out.set j b[j], j + 1), ⟨by simp [h1], hj, Y3a hj (by omega) h3 rfl⟩, by simp only; omega, hstep k out j hj h1⟩
  ·left
   have : j = b.length := by omega
   subst this
   rw [hend, <- List.take_of_length_le (Nat.le_of_eq h1), h3, List.take_length]) k (out, 0) (by simpa using hk) ⟨ho, by simp, by simp⟩
 exact this
theorem Y2d {n : Nat} (p : Nat -> Bool) (f : Nat -> Int -> Option Bool) (hend : ∀ k, f (k + 1) (n : Int) = some true) (hstep : ∀ k j, j < n -> f (k + 1) (j : Int) = if p j then f k ((j + 1 : Nat) : Int) else some false) {k : Nat} (hk : n < k) : f k 0 = some (decide (∀ j, j < n -> p j = true)) := by
 have := loop (fun k (j : Nat) => f k (j : Int)) (fun j => j <= n /\ ∀ i, i < j -> p i = true) (fun j => n - j) (fun o => o = some (decide (∀ j, j < n -> p j = true))) (fun k j hs => by
  obtain ⟨h1, h2⟩ := hs
  by_cases hj : j < n
  ·rw [hstep k j hj]
   cases hp : p j with
   | true =>
    right
    exact ⟨j + 1, ⟨hj, fun i hi => by rcases Nat.lt_or_eq_of_le (Nat.le_of_lt_succ hi) with h | h; exact h2 i h; rw [h]; exact hp⟩, by omega, by simp⟩
   | false =>
    left
    have : ¬ ∀ j, j < n -> p j = true := fun h => by have := h j hj; rw [hp] at this; simp at this
    simp [this]
  ·left
   have : j = n := by omega
   subst this
   rw [hend]
   simp only [Option.some.injEq]
   symm
   simpa using h2) k 0 (by simpa using hk) ⟨by omega, by omega⟩
 exact this
theorem Y9 {R : Type} {n : Nat} (p : Nat -> Bool) (no e : Option R) (f : Nat -> Int -> Option R) (hend : ∀ k, f (k + 1) (n : Int) = e) (hstep : ∀ k j, j < n -> f (k + 1) (j : Int) = if p j then f k ((j + 1 : Nat) : Int) else no) {k : Nat} (hk : n < k) : f k 0 = if ∀ j, j < n -> p j = true then e else no := by
 have := loop (fun k (j : Nat) => f k (j : Int)) (fun j => j <= n /\ ∀ i, i < j -> p i = true) (fun j => n - j) (fun o => o = if ∀ j, j < n -> p j = true then e else no) (fun k j hs => by
  obtain ⟨h1, h2⟩ := hs
  by_cases hj : j < n
  ·rw [hstep k j hj]
   cases hp : p j with
   | true =>
    right
    exact ⟨j + 1, ⟨hj, fun i hi => by rcases Nat.lt_or_eq_of_le (Nat.le_of_lt_succ hi) with h | h; exact h2 i h; rw [h]; exact hp⟩, by omega, by simp⟩
   | false =>
    left
    have : ¬ ∀ j, j < n -> p j = true := fun h => by have := h j hj; rw [hp] at this; simp at this
    simp [this]
  ·left
   have : j = n := by omega
   subst this
   rw [hend, if_pos h2]) k 0 (by simpa using hk) ⟨by omega, by omega⟩
 exact this
theorem first {n : Nat} (p : Nat -> Bool) (f : Nat -> Int -> Option Int) (hend : ∀ k, f (k + 1) (n : Int) = some (-1)) (hstep : ∀ k j, j < n -> f (k + 1) (j : Int) = if p j then some (j : Int) else f k ((j + 1 : Nat) : Int)) {k : Nat} (hk : n < k) :
  (∃ j, j < n /\ p j = true /\ (∀ i, i < j -> p i = false) /\ f k 0 = some (j : Int)) \/ ((∀ i, i < n -> p i = false) /\ f k 0 = some (-1)) := by
 have := loop (fun k (j : Nat) => f k (j : Int)) (fun j => j <= n /\ ∀ i, i < j -> p i = false) (fun j => n - j) (fun o => (∃ j, j < n /\ p j = true /\ (∀ i, i < j -> p i = false) /\ o = some (j : Int)) \/ ((∀ i, i < n -> p i = false) /\ o = some (-1))) (fun k j hs => by
  obtain ⟨h1, h2⟩ := hs
  by_cases hj : j < n
  ·rw [hstep k j hj]
   cases hp : p j with
   | true => left; left; exact ⟨j, hj, hp, h2, rfl⟩
   | false =>
    right
    exact ⟨j + 1, ⟨hj, fun i hi => by rcases Nat.lt_or_eq_of_le (Nat.le_of_lt_succ hi) with h | h; exact h2 i h; rw [h]; exact hp⟩, by omega, by simp⟩
  ·left; right
   have : j = n := by omega
   subst this
   exact ⟨h2, hend k⟩) k 0 (by simpa using hk) ⟨by omega, by omega⟩
 exact this
theorem Ya {j : Nat} (h : 0 < j) (h2 : j < 4611686018427387904) : w64 ((j : Int) - 1) = ((j - 1 : Nat) : Int) := by
 rw [Y5 (by omega) (by omega)]; omega
theorem Yc {α : Type} {i : Int} {xs : List α} (h0 : 0 <= i) (h : i < xs.length) : inb i xs = true := by simp [inb, h0, h]
theorem Y3j {α : Type} {d : α} {i : Int} {xs : List α} (h0 : 0 <= i) (h : i < xs.length) : at_ d xs i = xs[i.toNat]'(by omega) := by
 unfold at_
 rw [List.getD_eq_getElem?_getD, List.getElem?_eq_getElem (by omega)]
 rfl
def in_int (x : Int) : Prop := IntKind.min .i64 <= x /\ x <= IntKind.max .i64
def in_str (x : ByteArray) : Prop := x.size <= 9223372036854775807
def s_str (x : ByteArray) : Nat := x.size
def b_str (x : ByteArray) : Prop := x.size <= 1048576
theorem Y6b {x : ByteArray} (h : s_str x <= 1048576) : b_str x := h
theorem bneB (a b : Bool) : (a != b) = !decide (a = b) := by cases a <;> cases b <;> rfl
theorem beqB (a b : Bool) : (a == b) = decide (a = b) := by cases a <;> cases b <;> rfl
theorem Yj {α : Type} [DecidableEq α] {a b : List α} (h : a.length = b.length) : (a = b) ↔ ∀ j, j < a.length -> (decide (a[j]? = b[j]?)) = true := by
 constructor
 ·rintro rfl j _; simp
 ·intro h2
  apply List.ext_getElem?
  intro j
  by_cases hj : j < a.length
  ·simpa using h2 j hj
  ·rw [List.getElem?_eq_none (by omega), List.getElem?_eq_none (by omega)]
def sub1 (l : Int) (s : Nat) : Int := if (s : Int) <= l then l - s else -1
theorem Yb {l : Int} {s : Nat} (h : (s : Int) <= l) : sub1 l s = l - s := if_pos h
theorem Y8 {l : Int} {s : Nat} (h : ¬ (s : Int) <= l) : sub1 l s = -1 := if_neg h
def sumL {α : Type} (s : α -> Nat) (a : List α) : Nat := a.length + (a.map s).sum
theorem Y25 {α : Type} {s : α -> Nat} {a : List α} {m : Nat} (h : sumL s a <= m) : a.length <= m := Nat.le_trans (Nat.le_add_right _ _) h
theorem Y4o {α : Type} {s : α -> Nat} : ∀ {a : List α} {y : α}, y ∈ a -> s y <= (a.map s).sum
 | [], y, h => by simp at h
 | x :: a, y, h => by
  rcases List.mem_cons.1 h with rfl | h
  ·simp
  ·have := Y4o (s := s) h
   simp only [List.map_cons, List.sum_cons]; omega
theorem Y26 {α : Type} {s : α -> Nat} {a : List α} {y : α} (h : y ∈ a) : s y <= sumL s a := Nat.le_trans (Y4o h) (Nat.le_add_left _ _)
theorem szL {α : Type} {a : List α} {s : α -> Nat} {g : α -> Int -> Option Int} {f : Nat -> Int -> Int -> Option Int} (hg : ∀ x ∈ a, ∀ l : Int, 0 <= l -> l <= 1048576 -> g x l = some (sub1 l (s x)))
  (hend : ∀ k l, f (k + 1) l (a.length : Int) = some l) (hstep : ∀ k l j (h : j < a.length), f (k + 1) l (j : Int) = (g a[j] l).bind fun r => bif decide (r < 0) then some (-1) else f k r ((j + 1 : Nat) : Int))
  {k : Nat} (hk : a.length < k) {l : Int} (h0 : 0 <= l) (h1 : l <= 1048576) : f k l 0 = some (sub1 l ((a.map s).sum)) := by
 have := loop (fun k (q : Int × Nat) => f k q.1 (q.2 : Int)) (fun q => 0 <= q.1 /\ q.1 <= 1048576 /\ q.2 <= a.length /\ sub1 q.1 (((a.drop q.2).map s).sum) = sub1 l ((a.map s).sum)) (fun q => a.length - q.2) (fun o => o = some (sub1 l ((a.map s).sum))) (fun k q hs => by
  obtain ⟨v, j⟩ := q
  obtain ⟨g0, g1, g2, g3⟩ := hs
  simp only at g0 g1 g2 g3 ⊢
  by_cases hj : j < a.length
  ·rw [hstep k v j hj, hg a[j] (List.getElem_mem hj) v g0 g1, Option.bind_some]
   rw [List.drop_eq_getElem_cons hj, List.map_cons, List.sum_cons] at g3
   by_cases hc : (s a[j] : Int) <= v
   ·right
    refine ⟨(v - s a[j], j + 1), ⟨by simp only; omega, by simp only; omega, hj, ?_⟩, by simp only; omega, ?_⟩
    ·rw [<- g3]; simp only [sub1]; split <;> split <;> omega
    ·rw [Yb hc, decide_eq_false (by omega), cond_false]
   ·left
    rw [Y8 hc, decide_eq_true (by omega), cond_true]
    rw [<- g3, Y8 (by omega)]
  ·left
   have : j = a.length := by omega
   subst this
   rw [hend]
   rw [List.drop_length] at g3
   rw [<- g3]; simp [sub1, g0]) k (l, 0) (by simpa using hk) ⟨h0, h1, by simp, by simp⟩
 exact this
theorem Y4p {x : Int} (h : 0 <= x) : decide (x < 0) = false := decide_eq_false (by omega)
abbrev T_IntS := List Int
def in_IntS (a : T_IntS) : Prop := a.length <= 9223372036854775807 /\ ∀ y ∈ a, in_int y
def s_IntS (a : T_IntS) : Nat := a.length
def b_IntS (a : T_IntS) : Prop := a.length <= 1048576
theorem Y1k {a : T_IntS} (h : s_IntS a <= 1048576) : b_IntS a := h
theorem Y14 {a : T_IntS} (h : b_IntS a) (hN : 1048576 < N) : Z1c N a = some a := by
 have hl : a.length <= 1048576 := h
 unfold Z1c Z91
 rw [Yq (by omega), grd_true]
 refine fill (b := a) (fun k out i => Z5l N k a out i) (fun k out => by simp [Z5l, Z7c]) (fun k out j h1 h3 => ?_) (by omega) (by simp)
 have h2 : j < out.length := by omega
 have hj : (j : Int) < (a.length : Int) := by omega
 simp [Z5l, Z7c, hj, Y0 h1, Y0 h2, Y2 h1, Y1 (j := j) (by omega)]
theorem Y15 {a b : T_IntS} (h : b_IntS a) (hN : 1048576 < N) : Z24 N a b = some (decide (a = b)) := by
 have hla : a.length <= 1048576 := h
 unfold Z24 Z9d
 by_cases hl : a.length = b.length
 ·have h0 : ((a.length : Int) != (b.length : Int)) = false := by simp [hl]
  rw [h0, cond_false, decide_eq_decide.2 (Yj hl)]
  refine Y2d (n := a.length) (fun j => decide (a[j]? = b[j]?)) (fun k i => Z5m N k a b i) (fun k => by simp [Z5m, Z7j]) (fun k j hj => ?_) (by omega)
  have h1 : (j : Int) < (a.length : Int) := by omega
  have h2 : j < b.length := by omega
  simp only [Z5m, Z7j, h1, decide_true, cond_true, Y0 hj, Y0 h2, grd_true, Y2 hj, Y2 h2, bneI, Yx, Y1 (j := j) (by omega), List.getElem?_eq_getElem hj, List.getElem?_eq_getElem h2, Option.some.injEq]
 ·have h0 : ((a.length : Int) != (b.length : Int)) = true := by simp; omega
  rw [h0, cond_true]
  have : a ≠ b := fun h => hl (by rw [h])
  simp [this]
theorem Y27 {a : T_IntS} {l : Int} (h : in_IntS a) (h0 : 0 <= l) (h1 : l <= 1048576) (hN : 1048576 < N) : Z30 N a l = some (sub1 l (s_IntS a)) := by
 have := h.1
 unfold Z30 s_IntS sub1
 rw [Y5 (by omega) (by omega)]
 by_cases h : (a.length : Int) <= l
 ·rw [if_pos h, decide_eq_false (by omega)]; rfl
 ·rw [if_neg h, decide_eq_true (by omega)]; rfl
abbrev T_Relation := ByteArray × Int × Int
def in_Relation (x : T_Relation) : Prop := in_str x.1 /\ in_int x.2.1 /\ in_int x.2.2
def s_Relation (x : T_Relation) : Nat := s_str x.1
def b_Relation (x : T_Relation) : Prop := b_str x.1
theorem Y3b {x : T_Relation} (h : s_Relation x <= 1048576) : b_Relation x := Y6b (by unfold s_Relation at h; omega)
theorem Y3k {x : T_Relation} (h : b_Relation x) (hN : 1048576 < N) : Z3o N x = some x := by
 simp [Z3o]
theorem Y3l {x y : T_Relation} (h : b_Relation x) (hN : 1048576 < N) : Z3v N x y = some (decide (x = y)) := by
 simp only [Z3v, bneI, bneB, beqB, Y1j, Option.bind_some]
 obtain ⟨x0, x1, x2⟩ := x
 obtain ⟨y0, y1, y2⟩ := y
 simp only [Prod.mk.injEq]
 by_cases e0 : x0 = y0 <;>
 by_cases e1 : x1 = y1 <;>
 by_cases e2 : x2 = y2 <;> simp [e0, e1, e2]
theorem Y3m {x : T_Relation} {l : Int} (h : in_Relation x) (h0 : 0 <= l) (h1 : l <= 1048576) (hN : 1048576 < N) : Z2t N x l = some (sub1 l (s_Relation x)) := by
 have : x.1.size <= 9223372036854775807 := h.1
 unfold Z2t s_Relation s_str sub1
 rw [Y5 (by omega) (by omega)]
 by_cases h : (x.1.size : Int) <= l
 ·rw [if_pos h, decide_eq_false (by omega)]; rfl
 ·rw [if_neg h, decide_eq_true (by omega)]; rfl
abbrev T_RelationS := List T_Relation
def in_RelationS (a : T_RelationS) : Prop := a.length <= 9223372036854775807 /\ ∀ y ∈ a, in_Relation y
def s_RelationS (a : T_RelationS) : Nat := sumL s_Relation a
def b_RelationS (a : T_RelationS) : Prop := a.length <= 1048576 /\ ∀ y ∈ a, b_Relation y
theorem Y2o {a : T_RelationS} (h : s_RelationS a <= 1048576) : b_RelationS a := ⟨(Y25 h), fun y hy => Y3b (Nat.le_trans (Y26 hy) h)⟩
theorem Y3c {a : T_RelationS} (h : b_RelationS a) (hN : 1048576 < N) : Z35 N a = some a := by
 have hl : a.length <= 1048576 := h.1
 unfold Z35 Z81
 rw [Yq (by omega), grd_true]
 refine fill (b := a) (fun k out i => Z2w N k a out i) (fun k out => by simp [Z2w, Z4u]) (fun k out j h1 h3 => ?_) (by omega) (by simp)
 have h2 : j < out.length := by omega
 have hj : (j : Int) < (a.length : Int) := by omega
 simp [Z2w, Z4u, hj, Y0 h1, Y0 h2, Y2 h1, Y3k (h.2 _ (List.getElem_mem h1)) hN, Y1 (j := j) (by omega)]
theorem Y3d {a b : T_RelationS} (h : b_RelationS a) (hN : 1048576 < N) : Z3a N a b = some (decide (a = b)) := by
 have hla : a.length <= 1048576 := h.1
 unfold Z3a Z87
 by_cases hl : a.length = b.length
 ·have h0 : ((a.length : Int) != (b.length : Int)) = false := by simp [hl]
  rw [h0, cond_false, decide_eq_decide.2 (Yj hl)]
  refine Y2d (n := a.length) (fun j => decide (a[j]? = b[j]?)) (fun k i => Z2z N k a b i) (fun k => by simp [Z2z, Z52]) (fun k j hj => ?_) (by omega)
  have h1 : (j : Int) < (a.length : Int) := by omega
  have h2 : j < b.length := by omega
  simp only [Z2z, Z52, h1, decide_true, cond_true, Y0 hj, Y0 h2, grd_true, Y2 hj, Y2 h2, Y3l (h.2 _ (List.getElem_mem hj)) hN, Option.bind_some, Yx, Y1 (j := j) (by omega), List.getElem?_eq_getElem hj, List.getElem?_eq_getElem h2, Option.some.injEq]
 ·have h0 : ((a.length : Int) != (b.length : Int)) = true := by simp; omega
  rw [h0, cond_true]
  have : a ≠ b := fun h => hl (by rw [h])
  simp [this]
theorem Y3e {a : T_RelationS} {l : Int} (h : in_RelationS a) (h0 : 0 <= l) (h1 : l <= 1048576) (hN : 1048576 < N) : Z34 N a l = some (sub1 l (s_RelationS a)) := by
 have hlen := h.1
 unfold Z34 Z80
 rw [Y5 (by omega) (by omega)]
 by_cases hc : (a.length : Int) <= l
 ·rw [decide_eq_false (by omega), cond_false]
  rw [szL (a := a) (s := s_Relation) (g := fun x l => Z2t N x l) (f := fun k l i => Z2v N k a l i) (fun x hx l h0 h1 => Y3m (h.2 x hx) h0 h1 hN) (fun k l => by simp [Z2v, Z4r]) (fun k l j hj => by
    have h2 : (j : Int) < (a.length : Int) := by omega
    simp only [Z2v, Z4r, h2, decide_true, cond_true, Y0 hj, grd_true, Y2 hj, Y1 (j := j) (by omega)]) (by omega) (by omega) (by omega)]
  unfold s_RelationS sumL sub1
  congr 1
  split <;> split <;> omega
 ·rw [decide_eq_true (by omega), cond_true]
  unfold s_RelationS sumL sub1
  rw [if_neg (by omega)]
abbrev T_Fact := Int × List Int
def in_Fact (x : T_Fact) : Prop := in_int x.1 /\ in_IntS x.2
def s_Fact (x : T_Fact) : Nat := s_IntS x.2
def b_Fact (x : T_Fact) : Prop := b_IntS x.2
theorem Y5c {x : T_Fact} (h : s_Fact x <= 1048576) : b_Fact x := Y1k (by unfold s_Fact at h; omega)
theorem Y6c {x : T_Fact} (h : b_Fact x) (hN : 1048576 < N) : Z6j N x = some x := by
 simp [Z6j, Y14 h hN]
theorem Y6d {x y : T_Fact} (h : b_Fact x) (hN : 1048576 < N) : Z6t N x y = some (decide (x = y)) := by
 simp only [Z6t, bneI, bneB, beqB, Y1j, Y15 h hN, Option.bind_some]
 obtain ⟨x0, x1⟩ := x
 obtain ⟨y0, y1⟩ := y
 simp only [Prod.mk.injEq]
 by_cases e0 : x0 = y0 <;>
 by_cases e1 : x1 = y1 <;> simp [e0, e1]
theorem Y6e {x : T_Fact} {l : Int} (h : in_Fact x) (h0 : 0 <= l) (h1 : l <= 1048576) (hN : 1048576 < N) : Z5j N x l = some (sub1 l (s_Fact x)) := by
 unfold Z5j s_Fact
 rw [Y27 (l := l) h.2 (by omega) (by omega) hN, Option.bind_some]
 unfold sub1
 split
 ·rw [decide_eq_false (by omega)]; rfl
 ·rfl
abbrev T_FactS := List T_Fact
def in_FactS (a : T_FactS) : Prop := a.length <= 9223372036854775807 /\ ∀ y ∈ a, in_Fact y
def s_FactS (a : T_FactS) : Nat := sumL s_Fact a
def b_FactS (a : T_FactS) : Prop := a.length <= 1048576 /\ ∀ y ∈ a, b_Fact y
theorem Y50 {a : T_FactS} (h : s_FactS a <= 1048576) : b_FactS a := ⟨(Y25 h), fun y hy => Y5c (Nat.le_trans (Y26 hy) h)⟩
theorem Y5d {a : T_FactS} (h : b_FactS a) (hN : 1048576 < N) : Z5q N a = some a := by
 have hl : a.length <= 1048576 := h.1
 unfold Z5q Z8s
 rw [Yq (by omega), grd_true]
 refine fill (b := a) (fun k out i => Z4v N k a out i) (fun k out => by simp [Z4v, Z6x]) (fun k out j h1 h3 => ?_) (by omega) (by simp)
 have h2 : j < out.length := by omega
 have hj : (j : Int) < (a.length : Int) := by omega
 simp [Z4v, Z6x, hj, Y0 h1, Y0 h2, Y2 h1, Y6c (h.2 _ (List.getElem_mem h1)) hN, Y1 (j := j) (by omega)]
theorem Y5e {a b : T_FactS} (h : b_FactS a) (hN : 1048576 < N) : Z61 N a b = some (decide (a = b)) := by
 have hla : a.length <= 1048576 := h.1
 unfold Z61 Z8y
 by_cases hl : a.length = b.length
 ·have h0 : ((a.length : Int) != (b.length : Int)) = false := by simp [hl]
  rw [h0, cond_false, decide_eq_decide.2 (Yj hl)]
  refine Y2d (n := a.length) (fun j => decide (a[j]? = b[j]?)) (fun k i => Z53 N k a b i) (fun k => by simp [Z53, Z71]) (fun k j hj => ?_) (by omega)
  have h1 : (j : Int) < (a.length : Int) := by omega
  have h2 : j < b.length := by omega
  simp only [Z53, Z71, h1, decide_true, cond_true, Y0 hj, Y0 h2, grd_true, Y2 hj, Y2 h2, Y6d (h.2 _ (List.getElem_mem hj)) hN, Option.bind_some, Yx, Y1 (j := j) (by omega), List.getElem?_eq_getElem hj, List.getElem?_eq_getElem h2, Option.some.injEq]
 ·have h0 : ((a.length : Int) != (b.length : Int)) = true := by simp; omega
  rw [h0, cond_true]
  have : a ≠ b := fun h => hl (by rw [h])
  simp [this]
theorem Y5f {a : T_FactS} {l : Int} (h : in_FactS a) (h0 : 0 <= l) (h1 : l <= 1048576) (hN : 1048576 < N) : Z5n N a l = some (sub1 l (s_FactS a)) := by
 have hlen := h.1
 unfold Z5n Z8q
 rw [Y5 (by omega) (by omega)]
 by_cases hc : (a.length : Int) <= l
 ·rw [decide_eq_false (by omega), cond_false]
  rw [szL (a := a) (s := s_Fact) (g := fun x l => Z5j N x l) (f := fun k l i => Z4s N k a l i) (fun x hx l h0 h1 => Y6e (h.2 x hx) h0 h1 hN) (fun k l => by simp [Z4s, Z6v]) (fun k l j hj => by
    have h2 : (j : Int) < (a.length : Int) := by omega
    simp only [Z4s, Z6v, h2, decide_true, cond_true, Y0 hj, grd_true, Y2 hj, Y1 (j := j) (by omega)]) (by omega) (by omega) (by omega)]
  unfold s_FactS sumL sub1
  congr 1
  split <;> split <;> omega
 ·rw [decide_eq_true (by omega), cond_true]
  unfold s_FactS sumL sub1
  rw [if_neg (by omega)]
abbrev T_Database := (List (ByteArray × Int × Int)) × List (Int × List Int)
def in_Database (x : T_Database) : Prop := in_RelationS x.1 /\ in_FactS x.2
def s_Database (x : T_Database) : Nat := s_RelationS x.1 + s_FactS x.2
def b_Database (x : T_Database) : Prop := b_RelationS x.1 /\ b_FactS x.2
theorem Y3f {x : T_Database} (h : s_Database x <= 1048576) : b_Database x := ⟨Y2o (by unfold s_Database at h; omega), Y50 (by unfold s_Database at h; omega)⟩
theorem Y3n {x : T_Database} (h : b_Database x) (hN : 1048576 < N) : Z28 N x = some x := by
 simp [Z28, Y3c h.1 hN, Y5d h.2 hN]
theorem Y3o {x y : T_Database} (h : b_Database x) (hN : 1048576 < N) : Z3w N x y = some (decide (x = y)) := by
 simp only [Z3w, bneI, bneB, beqB, Y1j, Y3d h.1 hN, Y5e h.2 hN, Option.bind_some]
 obtain ⟨x0, x1⟩ := x
 obtain ⟨y0, y1⟩ := y
 simp only [Prod.mk.injEq]
 by_cases e0 : x0 = y0 <;>
 by_cases e1 : x1 = y1 <;> simp [e0, e1]
theorem Y3p {x : T_Database} {l : Int} (h : in_Database x) (h0 : 0 <= l) (h1 : l <= 1048576) (hN : 1048576 < N) : Z3n N x l = some (sub1 l (s_Database x)) := by
 unfold Z3n s_Database
 rw [Y3e (l := l) h.1 (by omega) (by omega) hN, Option.bind_some]
 by_cases c0 : (s_RelationS x.1 : Int) <= l
 case neg => rw [Y8 c0]; rw [Y8 (by omega)]; rfl
 rw [Yb c0, decide_eq_false (show ¬ l - (s_RelationS x.1 : Int) < 0 by omega), cond_false]
 rw [Y5f (l := (l - (s_RelationS x.1 : Int))) h.2 (by omega) (by omega) hN, Option.bind_some]
 by_cases c1 : (s_FactS x.2 : Int) <= (l - (s_RelationS x.1 : Int))
 case neg => rw [Y8 c1]; rw [Y8 (by omega)]; rfl
 rw [Yb c1, decide_eq_false (show ¬ (l - (s_RelationS x.1 : Int)) - (s_FactS x.2 : Int) < 0 by omega), cond_false]
 rw [Yb (by omega)]; congr 1; omega
abbrev T_Atom := Int × List Int
def in_Atom (x : T_Atom) : Prop := in_int x.1 /\ in_IntS x.2
def s_Atom (x : T_Atom) : Nat := s_IntS x.2
def b_Atom (x : T_Atom) : Prop := b_IntS x.2
theorem Y5g {x : T_Atom} (h : s_Atom x <= 1048576) : b_Atom x := Y1k (by unfold s_Atom at h; omega)
theorem Y6f {x : T_Atom} (h : b_Atom x) (hN : 1048576 < N) : Z6k N x = some x := by
 simp [Z6k, Y14 h hN]
theorem Y6g {x y : T_Atom} (h : b_Atom x) (hN : 1048576 < N) : Z6u N x y = some (decide (x = y)) := by
 simp only [Z6u, bneI, bneB, beqB, Y1j, Y15 h hN, Option.bind_some]
 obtain ⟨x0, x1⟩ := x
 obtain ⟨y0, y1⟩ := y
 simp only [Prod.mk.injEq]
 by_cases e0 : x0 = y0 <;>
 by_cases e1 : x1 = y1 <;> simp [e0, e1]
theorem Y6h {x : T_Atom} {l : Int} (h : in_Atom x) (h0 : 0 <= l) (h1 : l <= 1048576) (hN : 1048576 < N) : Z5k N x l = some (sub1 l (s_Atom x)) := by
 unfold Z5k s_Atom
 rw [Y27 (l := l) h.2 (by omega) (by omega) hN, Option.bind_some]
 unfold sub1
 split
 ·rw [decide_eq_false (by omega)]; rfl
 ·rfl
abbrev T_AtomS := List T_Atom
def in_AtomS (a : T_AtomS) : Prop := a.length <= 9223372036854775807 /\ ∀ y ∈ a, in_Atom y
def s_AtomS (a : T_AtomS) : Nat := sumL s_Atom a
def b_AtomS (a : T_AtomS) : Prop := a.length <= 1048576 /\ ∀ y ∈ a, b_Atom y
theorem Y51 {a : T_AtomS} (h : s_AtomS a <= 1048576) : b_AtomS a := ⟨(Y25 h), fun y hy => Y5g (Nat.le_trans (Y26 hy) h)⟩
theorem Y5h {a : T_AtomS} (h : b_AtomS a) (hN : 1048576 < N) : Z5r N a = some a := by
 have hl : a.length <= 1048576 := h.1
 unfold Z5r Z8t
 rw [Yq (by omega), grd_true]
 refine fill (b := a) (fun k out i => Z4w N k a out i) (fun k out => by simp [Z4w, Z6y]) (fun k out j h1 h3 => ?_) (by omega) (by simp)
 have h2 : j < out.length := by omega
 have hj : (j : Int) < (a.length : Int) := by omega
 simp [Z4w, Z6y, hj, Y0 h1, Y0 h2, Y2 h1, Y6f (h.2 _ (List.getElem_mem h1)) hN, Y1 (j := j) (by omega)]
theorem Y5i {a b : T_AtomS} (h : b_AtomS a) (hN : 1048576 < N) : Z62 N a b = some (decide (a = b)) := by
 have hla : a.length <= 1048576 := h.1
 unfold Z62 Z8z
 by_cases hl : a.length = b.length
 ·have h0 : ((a.length : Int) != (b.length : Int)) = false := by simp [hl]
  rw [h0, cond_false, decide_eq_decide.2 (Yj hl)]
  refine Y2d (n := a.length) (fun j => decide (a[j]? = b[j]?)) (fun k i => Z54 N k a b i) (fun k => by simp [Z54, Z72]) (fun k j hj => ?_) (by omega)
  have h1 : (j : Int) < (a.length : Int) := by omega
  have h2 : j < b.length := by omega
  simp only [Z54, Z72, h1, decide_true, cond_true, Y0 hj, Y0 h2, grd_true, Y2 hj, Y2 h2, Y6g (h.2 _ (List.getElem_mem hj)) hN, Option.bind_some, Yx, Y1 (j := j) (by omega), List.getElem?_eq_getElem hj, List.getElem?_eq_getElem h2, Option.some.injEq]
 ·have h0 : ((a.length : Int) != (b.length : Int)) = true := by simp; omega
  rw [h0, cond_true]
  have : a ≠ b := fun h => hl (by rw [h])
  simp [this]
theorem Y5j {a : T_AtomS} {l : Int} (h : in_AtomS a) (h0 : 0 <= l) (h1 : l <= 1048576) (hN : 1048576 < N) : Z5o N a l = some (sub1 l (s_AtomS a)) := by
 have hlen := h.1
 unfold Z5o Z8r
 rw [Y5 (by omega) (by omega)]
 by_cases hc : (a.length : Int) <= l
 ·rw [decide_eq_false (by omega), cond_false]
  rw [szL (a := a) (s := s_Atom) (g := fun x l => Z5k N x l) (f := fun k l i => Z4t N k a l i) (fun x hx l h0 h1 => Y6h (h.2 x hx) h0 h1 hN) (fun k l => by simp [Z4t, Z6w]) (fun k l j hj => by
    have h2 : (j : Int) < (a.length : Int) := by omega
    simp only [Z4t, Z6w, h2, decide_true, cond_true, Y0 hj, grd_true, Y2 hj, Y1 (j := j) (by omega)]) (by omega) (by omega) (by omega)]
  unfold s_AtomS sumL sub1
  congr 1
  split <;> split <;> omega
 ·rw [decide_eq_true (by omega), cond_true]
  unfold s_AtomS sumL sub1
  rw [if_neg (by omega)]
abbrev T_Query := Int × (List (Int × List Int)) × List Int
def in_Query (x : T_Query) : Prop := in_int x.1 /\ in_AtomS x.2.1 /\ in_IntS x.2.2
def s_Query (x : T_Query) : Nat := s_AtomS x.2.1 + s_IntS x.2.2
def b_Query (x : T_Query) : Prop := b_AtomS x.2.1 /\ b_IntS x.2.2
theorem Y52 {x : T_Query} (h : s_Query x <= 1048576) : b_Query x := ⟨Y51 (by unfold s_Query at h; omega), Y1k (by unfold s_Query at h; omega)⟩
theorem Y5k {x : T_Query} (h : b_Query x) (hN : 1048576 < N) : Z3p N x = some x := by
 simp [Z3p, Y5h h.1 hN, Y14 h.2 hN]
theorem Y5l {x y : T_Query} (h : b_Query x) (hN : 1048576 < N) : Z63 N x y = some (decide (x = y)) := by
 simp only [Z63, bneI, bneB, beqB, Y1j, Y5i h.1 hN, Y15 h.2 hN, Option.bind_some]
 obtain ⟨x0, x1, x2⟩ := x
 obtain ⟨y0, y1, y2⟩ := y
 simp only [Prod.mk.injEq]
 by_cases e0 : x0 = y0 <;>
 by_cases e1 : x1 = y1 <;>
 by_cases e2 : x2 = y2 <;> simp [e0, e1, e2]
theorem Y5m {x : T_Query} {l : Int} (h : in_Query x) (h0 : 0 <= l) (h1 : l <= 1048576) (hN : 1048576 < N) : Z5p N x l = some (sub1 l (s_Query x)) := by
 unfold Z5p s_Query
 rw [Y5j (l := l) h.2.1 (by omega) (by omega) hN, Option.bind_some]
 by_cases c0 : (s_AtomS x.2.1 : Int) <= l
 case neg => rw [Y8 c0]; rw [Y8 (by omega)]; rfl
 rw [Yb c0, decide_eq_false (show ¬ l - (s_AtomS x.2.1 : Int) < 0 by omega), cond_false]
 rw [Y27 (l := (l - (s_AtomS x.2.1 : Int))) h.2.2 (by omega) (by omega) hN, Option.bind_some]
 by_cases c1 : (s_IntS x.2.2 : Int) <= (l - (s_AtomS x.2.1 : Int))
 case neg => rw [Y8 c1]; rw [Y8 (by omega)]; rfl
 rw [Yb c1, decide_eq_false (show ¬ (l - (s_AtomS x.2.1 : Int)) - (s_IntS x.2.2 : Int) < 0 by omega), cond_false]
 rw [Yb (by omega)]; congr 1; omega
theorem Ym {α β : Type} {piece : α -> List β} {n : Nat} : ∀ {a : List α}, (∀ x ∈ a, (piece x).length <= n) -> (a.flatMap piece).length <= a.length * n
 | [], _ => by simp
 | x :: a, h => by
  have h1 := h x (by simp)
  have h2 := Ym (a := a) fun y hy => h y (by simp [hy])
  rw [List.flatMap_cons, List.length_append, List.length_cons, Nat.add_mul]; omega
abbrev Rel := ByteArray × Int × Int
abbrev Fact := Int × List Int
abbrev Db := List Rel × List Fact
structure SmallDb (d : Db) : Prop where
 rels : d.1.length <= 1048576
 facts : d.2.length <= 1048576
 vals : ∀ f ∈ d.2, f.2.length <= 1048576
theorem Y4d {α : Type} [DecidableEq α] {a b : List α} (h : a.length = b.length) : (a = b) ↔ ∀ j, j < a.length -> (decide (a[j]? = b[j]?)) = true := by
 constructor
 ·rintro rfl j _; simp
 ·intro h2
  apply List.ext_getElem? 
  intro j
  by_cases hj : j < a.length
  ·simpa using h2 j hj
  ·rw [List.getElem?_eq_none (by omega), List.getElem?_eq_none (by omega)]
theorem l1In (N : Nat) (x a b : Int) : Z0o N x a b = some (decide (a <= x /\ x <= b)) := by
 unfold Z0o
 by_cases h : a <= x <;> simp [h]
theorem Yg (N : Nat) (x a b : Int) : Z0h N x a b = some (decide (a <= x /\ x <= b)) := by
 unfold Z0h
 by_cases h : a <= x <;> simp [h]
def validRel (r : Rel) : Bool := (Z5 0 r).getD false
theorem Y2p (N : Nat) (r : Rel) : Z5 N r = some (validRel r) := by
 have key : ∃ b, Z5 0 r = some b := by
  unfold Z5
  by_cases h : r.1.size = 1
  ·have hb : ∃ b, byteAt r.1 0 = some b := by
    unfold byteAt
    have : (0 : Int).toNat < r.1.size := by omega
    exact ⟨r.1[(0 : Int).toNat], by rw [if_pos (by omega), getElem?_pos]⟩
   obtain ⟨b, hb⟩ := hb
   rw [hb]
   simp only [Option.bind_some, l1In]
   cases ((r.1.size : Int) == 1) with
   | false => exact ⟨_, rfl⟩
   | true =>
    cases decide ((b.toNat : Int) >= 97) with
    | false => exact ⟨_, rfl⟩
    | true =>
     cases decide ((b.toNat : Int) <= 122) with
     | false => exact ⟨_, rfl⟩
     | true =>
      cases decide (1 <= r.2.1 /\ r.2.1 <= 3) with
      | false => exact ⟨_, rfl⟩
      | true => exact ⟨_, rfl⟩
  ·have h0 : ((r.1.size : Int) == 1) = false := by rw [beqI]; simp; omega
   rw [h0]; exact ⟨false, rfl⟩
 obtain ⟨b, hb⟩ := key
 have e : Z5 N r = Z5 0 r := by
  unfold Z5; simp only [l1In]
 rw [e, validRel, hb]; rfl
theorem Y73 (N : Nat) (r : Rel) : Z1y N r = some (validRel r) := by
 rw [<- Y2p N r]
 unfold Z1y Z5
 simp only [l1In, Yg]
def validRels (l : List Rel) : Bool := decide ((∀ j, j < l.length -> (validRel (l.getD j (⟨#[]⟩, 0, 0)) && (decide (j = 0) || slt (l.getD (j - 1) (⟨#[]⟩, 0, 0)).1 (l.getD j (⟨#[]⟩, 0, 0)).1)) = true) /\ l.length <= 4)
theorem Y3 {α : Type} {d : α} {j : Nat} {xs : List α} (h : j < xs.length) : xs.getD j d = xs[j] := by simp [h]
theorem Y16 {l : List Rel} (hl : l.length <= 1048576) (hN : 1048576 < N) : Z0c N l = some (validRels l) := by
 unfold Z0c Z3q
 rw [Y9 (n := l.length) (fun j => validRel (l.getD j (⟨#[]⟩, 0, 0)) && (decide (j = 0) || slt (l.getD (j - 1) (⟨#[]⟩, 0, 0)).1 (l.getD j (⟨#[]⟩, 0, 0)).1)) (some false) (some (decide (l.length <= 4))) (fun k i => Z0j N k l i)
  (fun k => by simp [Z0j, Z16]; omega) (fun k j hj => ?_) (by omega)]
 ·unfold validRels
  by_cases h : ∀ j, j < l.length -> (validRel (l.getD j (⟨#[]⟩, 0, 0)) && (decide (j = 0) || slt (l.getD (j - 1) (⟨#[]⟩, 0, 0)).1 (l.getD j (⟨#[]⟩, 0, 0)).1)) = true
  ·rw [if_pos h]; congr 1; exact decide_eq_decide.2 ⟨fun h2 => ⟨h, h2⟩, fun h2 => h2.2⟩
  ·rw [if_neg h]; congr 1; symm; exact decide_eq_false fun h2 => h h2.1
 ·have h1 : (j : Int) < (l.length : Int) := by omega
  simp only [Z0j, Z16, h1, decide_true, cond_true, Y0 hj, grd_true, Y2 hj, Y2p, Option.bind_some, Y3 hj, Y1 (j := j) (by omega)]
  cases validRel l[j] with
  | false => rfl
  | true =>
   simp only [Bool.not_true, cond_false, Bool.true_and]
   by_cases h0 : j = 0
   ·subst h0; simp
   ·have h3 : (j : Int) > 0 := by omega
    have h4 : j - 1 < l.length := by omega
    simp only [h3, decide_true, cond_true, Ya (show 0 < j by omega) (by omega), Y0 h4, grd_true, Y2 h4, h0, decide_false, Bool.false_or, Y3 h4]
    cases slt l[j - 1].1 l[j].1 <;> rfl
theorem Y3q {l : List Rel} (hl : l.length <= 1048576) (hN : 1048576 < N) : Z0s N l = some (validRels l) := by
 rw [<- Y16 hl hN]
 unfold Z0s Z5w Z0c Z3q
 rw [Y9 (n := l.length) (fun j => validRel (l.getD j (⟨#[]⟩, 0, 0)) && (decide (j = 0) || slt (l.getD (j - 1) (⟨#[]⟩, 0, 0)).1 (l.getD j (⟨#[]⟩, 0, 0)).1)) (some false) (some (decide (l.length <= 4))) (fun k i => Z0j N k l i)
  (fun k => by simp [Z0j, Z16]; omega) (fun k j hj => ?_) (by omega),
  Y9 (n := l.length) (fun j => validRel (l.getD j (⟨#[]⟩, 0, 0)) && (decide (j = 0) || slt (l.getD (j - 1) (⟨#[]⟩, 0, 0)).1 (l.getD j (⟨#[]⟩, 0, 0)).1)) (some false) (some (decide (l.length <= 4))) (fun k i => Z1f N k l l (l.length : Int) i)
  (fun k => by simp [Z1f, Z2u]; omega) (fun k j hj => ?_) (by omega)]
 ·have h1 : (j : Int) < (l.length : Int) := by omega
  simp only [Z1f, Z2u, h1, decide_true, cond_true, Y0 hj, grd_true, Y2 hj, Y73, Option.bind_some, Y3 hj, Y1 (j := j) (by omega)]
  cases validRel l[j] with
  | false => rfl
  | true =>
   simp only [Bool.not_true, cond_false, Bool.true_and]
   by_cases h0 : j = 0
   ·subst h0; simp
   ·have h3 : (j : Int) > 0 := by omega
    have h4 : j - 1 < l.length := by omega
    simp only [h3, decide_true, cond_true, Ya (show 0 < j by omega) (by omega), Y0 h4, grd_true, Y2 h4, h0, decide_false, Bool.false_or, Y3 h4]
    cases slt l[j - 1].1 l[j].1 <;> rfl
 ·have h1 : (j : Int) < (l.length : Int) := by omega
  simp only [Z0j, Z16, h1, decide_true, cond_true, Y0 hj, grd_true, Y2 hj, Y2p, Option.bind_some, Y3 hj, Y1 (j := j) (by omega)]
  cases validRel l[j] with
  | false => rfl
  | true =>
   simp only [Bool.not_true, cond_false, Bool.true_and]
   by_cases h0 : j = 0
   ·subst h0; simp
   ·have h3 : (j : Int) > 0 := by omega
    have h4 : j - 1 < l.length := by omega
    simp only [h3, decide_true, cond_true, Ya (show 0 < j by omega) (by omega), Y0 h4, grd_true, Y2 h4, h0, decide_false, Bool.false_or, Y3 h4]
    cases slt l[j - 1].1 l[j].1 <;> rfl
def validVals (xs : List Int) : Bool := xs.all fun x => decide (0 <= x /\ x <= 9)
theorem Y12 {α : Type} {d : α} {xs : List α} {p : α -> Bool} : (∀ j, j < xs.length -> p (xs.getD j d) = true) ↔ xs.all p = true := by
 rw [List.all_eq_true]
 constructor
 ·intro h x hx
  obtain ⟨i, hi, rfl⟩ := List.mem_iff_getElem.1 hx
  have := h i hi
  rwa [Y3 hi] at this
 ·intro h j hj
  rw [Y3 hj]
  exact h _ (List.getElem_mem hj)
def fact1 (l : List Rel) (f : Fact) : Bool := decide (0 <= f.1 /\ f.1 <= (l.length : Int) - 1) && (decide ((f.2.length : Int) = (l.getD f.1.toNat (⟨#[]⟩, 0, 0)).2.1) && validVals f.2)
theorem Y17 {l : List Rel} {f : Fact} (hl : l.length <= 1048576) (hf : f.2.length <= 1048576) (hN : 1048576 < N) : Z0y N l f = some (validRels l && fact1 l f) := by
 obtain ⟨r, v⟩ := f
 unfold Z0y Z82
 rw [Y16 hl hN, Option.bind_some]
 cases validRels l with
 | false => rfl
 | true =>
  simp only [Bool.not_true, cond_false, l1In, Option.bind_some, Bool.true_and, fact1]
  rw [Y5 (by omega) (by omega)]
  by_cases h : 0 <= r /\ r <= (l.length : Int) - 1
  ·have h2 : r.toNat < l.length := by omega
   simp only [h, and_self, decide_true, Bool.not_true, cond_false, Yc h.1 (show r < l.length by omega), grd_true, Y3j h.1 (show r < l.length by omega), bneI, Y3 h2, Bool.true_and]
   by_cases h3 : (v.length : Int) = l[r.toNat].2.1
   ·simp only [h3, decide_true, Bool.not_true, cond_false, Bool.true_and]
    rw [Y9 (n := v.length) (fun j => decide (0 <= v.getD j 0 /\ v.getD j 0 <= 9)) (some false) (some true) (fun k i => Z2x N k r v i) (fun k => by simp [Z2x, Z4x]) (fun k j hj => ?_) (by simp only at hf; omega)]
    ·unfold validVals
     by_cases h4 : ∀ j, j < v.length -> decide (0 <= v.getD j 0 /\ v.getD j 0 <= 9) = true
     ·rw [if_pos h4, (Y12 (d := (0 : Int)) (p := fun x => decide (0 <= x /\ x <= 9))).1 h4]
     ·rw [if_neg h4]
      congr 1; symm
      rw [Bool.eq_false_iff]
      exact fun h5 => h4 ((Y12 (d := (0 : Int)) (p := fun x => decide (0 <= x /\ x <= 9))).2 h5)
    ·have h1 : (j : Int) < (v.length : Int) := by omega
     simp only at hf
     simp only [Z2x, Z4x, h1, decide_true, cond_true, Y0 hj, grd_true, Y2 hj, l1In, Option.bind_some, Y3 hj, Y1 (j := j) (by omega), Yx]
   ·simp only [h3, decide_false, Bool.not_false, cond_true, Bool.false_and]
  ·simp only [h, decide_false, Bool.not_false, cond_true, Bool.false_and]
def cmpInts : List Int -> List Int -> Int
 | [], [] => 0
 | [], _ :: _ => -1
 | _ :: _, [] => 1
 | a :: x, b :: y => if a < b then -1 else if a > b then 1 else cmpInts x y
theorem Y2e : ∀ (a b : List Int), cmpInts a b = 0 ↔ a = b
 | [], [] => by simp [cmpInts]
 | [], _ :: _ => by simp [cmpInts]
 | _ :: _, [] => by simp [cmpInts]
 | a :: x, b :: y => by
  simp only [cmpInts, List.cons.injEq]
  split
  ·rename_i h; constructor
   ·intro h; omega
   ·intro h2; omega
  ·split
   ·rename_i h; constructor
    ·intro h; omega
    ·intro h2; omega
   ·rw [Y2e x y]
    constructor
    ·intro h; exact ⟨by omega, h⟩
    ·intro h; exact h.2
theorem Y3r {a b : List Int} (ha : a.length <= 1048576) (hb : b.length <= 1048576) (hN : 1048576 < N) : Z4c N a b = some (cmpInts a b) := by
 unfold Z4c Z93
 have := loop (fun k (j : Nat) => Z44 N k a b (j : Int)) (fun j => j <= a.length /\ j <= b.length /\ cmpInts (a.drop j) (b.drop j) = cmpInts a b) (fun j => a.length - j) (fun o => o = some (cmpInts a b)) (fun k j hs => by
  obtain ⟨h1, h2, h3⟩ := hs
  by_cases hj : j < a.length
  ·by_cases hjb : j < b.length
   ·have e1 : (j : Int) < (a.length : Int) := by omega
    have e2 : (j : Int) < (b.length : Int) := by omega
    simp only [Z44, Z5s, e1, e2, decide_true, cond_true, Y0 hj, Y0 hjb, grd_true, Y2 hj, Y2 hjb, Y1 (j := j) (by omega)]
    rw [List.drop_eq_getElem_cons hj, List.drop_eq_getElem_cons hjb] at h3
    simp only [cmpInts] at h3
    by_cases hlt : a[j] < b[j]
    ·left; simp only [hlt, if_true, decide_true, cond_true] at h3 ⊢; rw [h3]
    ·by_cases hgt : a[j] > b[j]
     ·left; simp only [hlt, hgt, if_true, if_false, decide_true, decide_false, cond_true, cond_false] at h3 ⊢; rw [h3]
     ·right
      simp only [hlt, hgt, if_false, decide_false, cond_false] at h3 ⊢
      exact ⟨j + 1, ⟨by omega, by omega, h3⟩, by omega, rfl⟩
   ·left
    have e1 : (j : Int) < (a.length : Int) := by omega
    have e2 : ¬ (j : Int) < (b.length : Int) := by omega
    have e3 : ¬ (a.length : Int) < (b.length : Int) := by omega
    have e4 : (a.length : Int) > (b.length : Int) := by omega
    simp only [Z44, Z5s, e1, e2, e3, e4, decide_true, decide_false, cond_true, cond_false]
    rw [List.drop_eq_getElem_cons hj, List.drop_of_length_le (l := b) (by omega)] at h3
    rw [<- h3]; rfl
  ·left
   have hja : j = a.length := by omega
   have e1 : ¬ (j : Int) < (a.length : Int) := by omega
   simp only [Z44, Z5s, e1, decide_false, cond_false]
   rw [List.drop_of_length_le (l := a) (by omega)] at h3
   by_cases hlt : a.length < b.length
   ·have e2 : (a.length : Int) < (b.length : Int) := by omega
    simp only [e2, decide_true, cond_true]
    rw [List.drop_eq_getElem_cons (by omega)] at h3
    rw [<- h3]; rfl
   ·have e2 : ¬ (a.length : Int) < (b.length : Int) := by omega
    have e3 : ¬ (a.length : Int) > (b.length : Int) := by omega
    simp only [e2, e3, decide_false, cond_false]
    rw [List.drop_of_length_le (by omega)] at h3
    rw [<- h3]; rfl) N 0 (by omega) ⟨by omega, by omega, rfl⟩
 exact this
theorem Y6i {a b : List Int} (ha : a.length <= 1048576) (hb : b.length <= 1048576) (hN : 1048576 < N) : Z17 N a b = some (cmpInts a b) := by
 have hc : ∀ x y : Int, Z3s N x y = some (if x < y then -1 else if x > y then 1 else 0) := by
  intro x y
  simp only [Z3s, Z56, Option.bind_some, bneI, decide_true, Bool.not_true, cond_false]
  by_cases h1 : x < y
  ·simp [h1]
  ·by_cases h2 : x > y <;> simp [h1, h2]
 unfold Z17 Z5f
 have := loop (fun k (j : Nat) => Z0z N k a b a (a.length : Int) (j : Int)) (fun j => j <= a.length /\ j <= b.length /\ cmpInts (a.drop j) (b.drop j) = cmpInts a b) (fun j => a.length - j) (fun o => o = some (cmpInts a b)) (fun k j hs => by
  obtain ⟨h1, h2, h3⟩ := hs
  by_cases hj : j < a.length
  ·have e1 : (j : Int) < (a.length : Int) := by omega
   by_cases hjb : j < b.length
   ·have e2 : ¬ (j : Int) >= (b.length : Int) := by omega
    simp only [Z0z, Z1k, e1, e2, decide_true, decide_false, cond_true, cond_false, Y0 hj, Y0 hjb, grd_true, Y2 hj, Y2 hjb, Y1 (j := j) (by omega), hc, Option.bind_some]
    rw [List.drop_eq_getElem_cons hj, List.drop_eq_getElem_cons hjb] at h3
    simp only [cmpInts] at h3
    by_cases hlt : a[j] < b[j]
    ·left; simp only [hlt, if_true] at h3 ⊢; rw [<- h3]; rfl
    ·by_cases hgt : a[j] > b[j]
     ·left; simp only [hlt, hgt, if_true, if_false] at h3 ⊢; rw [<- h3]; rfl
     ·right
      simp only [hlt, hgt, if_false] at h3 ⊢
      exact ⟨j + 1, ⟨by omega, by omega, h3⟩, by omega, rfl⟩
   ·left
    have e2 : (j : Int) >= (b.length : Int) := by omega
    simp only [Z0z, Z1k, e1, e2, decide_true, cond_true, Y0 hj, grd_true]
    rw [List.drop_eq_getElem_cons hj, List.drop_of_length_le (l := b) (by omega)] at h3
    rw [<- h3]; rfl
  ·left
   have e1 : ¬ (j : Int) < (a.length : Int) := by omega
   simp only [Z0z, Z1k, e1, decide_false, cond_false]
   rw [List.drop_of_length_le (l := a) (by omega)] at h3
   by_cases hlt : a.length < b.length
   ·have e2 : (a.length : Int) < (b.length : Int) := by omega
    simp only [e2, decide_true, cond_true]
    rw [List.drop_eq_getElem_cons (by omega)] at h3
    rw [<- h3]; rfl
   ·have e2 : ¬ (a.length : Int) < (b.length : Int) := by omega
    simp only [e2, decide_false, cond_false]
    rw [List.drop_of_length_le (by omega)] at h3
    rw [<- h3]; rfl) N 0 (by omega) ⟨by omega, by omega, rfl⟩
 exact this
def cmpFacts (a b : Fact) : Int := if a.1 < b.1 then -1 else if a.1 > b.1 then 1 else cmpInts a.2 b.2
theorem Y74 {a b : Fact} (ha : a.2.length <= 1048576) (hb : b.2.length <= 1048576) (hN : 1048576 < N) : Z2o N a b = some (cmpFacts a b) := by
 unfold Z2o cmpFacts
 rw [Y3r ha hb hN]
 by_cases h1 : a.1 < b.1
 ·simp [h1]
 ·by_cases h2 : a.1 > b.1 <;> simp [h1, h2]
theorem Y75 {a b : Fact} (ha : a.2.length <= 1048576) (hb : b.2.length <= 1048576) (hN : 1048576 < N) : Z2q N a b = some (cmpFacts a b) := by
 unfold Z2q cmpFacts Z78
 rw [Y6i ha hb hN, bneI]
 by_cases h1 : a.1 < b.1
 ·have : ¬ a.1 = b.1 := by omega
  simp [h1, this]
 ·by_cases h2 : a.1 > b.1
  ·have : ¬ a.1 = b.1 := by omega
   simp [h1, h2, this]
  ·have : a.1 = b.1 := by omega
   simp [this]
theorem Y3s {α : Type} (d : α) {xs : List α} {p : α -> Bool} : (∃ j, j < xs.length /\ p (xs.getD j d) = true) ↔ xs.any p = true := by
 rw [List.any_eq_true]
 constructor
 ·rintro ⟨j, hj, h⟩
  rw [Y3 hj] at h
  exact ⟨_, List.getElem_mem hj, h⟩
 ·rintro ⟨x, hx, h⟩
  obtain ⟨i, hi, rfl⟩ := List.mem_iff_getElem.1 hx
  exact ⟨i, hi, by rw [Y3 hi]; exact h⟩
theorem Yd {α : Type} {d : α} {xs : List α} {p : α -> Bool} {g : Option Int} (h : (∃ j, j < xs.length /\ p (xs.getD j d) = true /\ (∀ i, i < j -> p (xs.getD i d) = false) /\ g = some (j : Int)) \/ ((∀ i, i < xs.length -> p (xs.getD i d) = false) /\ g = some (-1))) : (g.bind fun r => some (decide (r >= 0))) = some (xs.any p) := by
 rcases h with ⟨j, h1, h2, _, rfl⟩ | ⟨h1, rfl⟩
 ·rw [(Y3s d).1 ⟨j, h1, h2⟩]
  simp
 ·have : xs.any p = false := by
   rw [Bool.eq_false_iff]
   intro h
   obtain ⟨j, hj, h2⟩ := (Y3s d).2 h
   rw [h1 j hj] at h2; simp at h2
  rw [this]; rfl
theorem Y5n {v : List Int} (hv : v.length <= 1048576) (hN : 1048576 < N) : Z48 N v = some (validVals v) := by
 unfold Z48 Z0b Z0g Z1z
 rw [Yd (d := (0 : Int)) (xs := v) (p := fun x => !decide (0 <= x /\ x <= 9)) (first (n := v.length) (fun j => !decide (0 <= v.getD j 0 /\ v.getD j 0 <= 9)) (fun k i => Z0a N k v (v.length : Int) i) (fun k => by simp [Z0a, Z0t]) (fun k j hj => ?_) (by omega))]
 ·simp only [Option.bind_some, validVals]
  rw [show (v.any fun x => !decide (0 <= x /\ x <= 9)) = !(v.all fun x => decide (0 <= x /\ x <= 9)) from (List.not_all_eq_any_not (l := v) (p := fun x => decide (0 <= x /\ x <= 9))).symm, Bool.not_not]
 ·have h1 : (j : Int) < (v.length : Int) := by omega
  simp only [Z0a, Z0t, h1, decide_true, cond_true, Y0 hj, grd_true, Y2 hj, Z3z, Yg, Option.bind_some, Y3 hj, Y1 (j := j) (by omega)]
  cases decide (0 <= v[j] /\ v[j] <= 9) <;> rfl
theorem Y5o {l : List Rel} {f : Fact} (hl : l.length <= 1048576) (hf : f.2.length <= 1048576) (hN : 1048576 < N) : Z6p N l f = some (fact1 l f) := by
 obtain ⟨r, v⟩ := f
 simp only [Z6p, Yg, Option.bind_some, fact1]
 rw [Y5 (by omega) (by omega)]
 by_cases h : 0 <= r /\ r <= (l.length : Int) - 1
 ·have h2 : r.toNat < l.length := by omega
  simp only [h, and_self, decide_true, cond_true, Yc h.1 (show r < l.length by omega), grd_true, Y3j h.1 (show r < l.length by omega), beqI, Y3 h2, Bool.true_and]
  simp only at hf
  rw [Y5n hf hN]
  cases decide ((v.length : Int) = l[r.toNat].2.1) <;> rfl
 ·simp only [h, decide_false, cond_false, Bool.false_and]
def factAt (d : Db) (j : Nat) : Fact := d.2.getD j (0, [])
def factsOk (d : Db) : Prop := ∀ j, j < d.2.length -> (fact1 d.1 (factAt d j) && (decide (j = 0) || decide (cmpFacts (factAt d (j - 1)) (factAt d j) < 0))) = true
instance (d : Db) : Decidable (factsOk d) := by unfold factsOk; infer_instance
def validDb (d : Db) : Bool := validRels d.1 && (decide (d.2.length <= 14) && decide (factsOk d))
theorem Yr {d : Db} (h : SmallDb d) (hN : 1048576 < N) : Z0 N d = some (validDb d) := by
 have hv : ∀ j, j < d.2.length -> (factAt d j).2.length <= 1048576 := fun j hj => by unfold factAt; rw [Y3 hj]; exact h.vals _ (List.getElem_mem hj)
 unfold Z0 Z6l
 rw [Y9 (n := d.2.length) (fun j => (validRels d.1 && fact1 d.1 (factAt d j)) && (decide (j = 0) || decide (cmpFacts (factAt d (j - 1)) (factAt d j) < 0))) (some false) (some (validRels d.1 && decide (d.2.length <= 14))) (fun k i => Z1p N k d.1 d.2 i)
  (fun k => by
   simp only [Z1p, Z3k, Int.lt_irrefl, decide_false, cond_false, Y16 h.rels hN, Option.bind_some]
   cases validRels d.1 with
   | false => rfl
   | true => simp only [cond_true, Bool.true_and, Option.some.injEq]; exact decide_eq_decide.2 (by omega)) (fun k j hj => ?_) (by have := h.facts; omega)]
 ·unfold validDb factsOk
  cases hr : validRels d.1 with
  | true =>
   simp only [Bool.true_and]
   by_cases h2 : ∀ j, j < d.2.length -> (fact1 d.1 (factAt d j) && (decide (j = 0) || decide (cmpFacts (factAt d (j - 1)) (factAt d j) < 0))) = true
   ·rw [if_pos h2, decide_eq_true h2, Bool.and_true]
   ·rw [if_neg h2, decide_eq_false h2, Bool.and_false]
  | false => simp
 ·have h1 : (j : Int) < (d.2.length : Int) := by omega
  have hf := h.facts
  have ha : at_ (0, []) d.2 (j : Int) = factAt d j := by unfold factAt; rw [Y2 hj, Y3 hj]
  simp only [Z1p, Z3k, h1, decide_true, cond_true, Y0 hj, grd_true, ha, Y17 h.rels (hv j hj) hN, Option.bind_some, Y1 (j := j) (by omega)]
  cases validRels d.1 && fact1 d.1 (factAt d j) with
  | false => rfl
  | true =>
   simp only [Bool.not_true, cond_false, Bool.true_and]
   by_cases h0 : j = 0
   ·subst h0; simp
   ·have h3 : (j : Int) > 0 := by omega
    have h4 : j - 1 < d.2.length := by omega
    have hb : at_ (0, []) d.2 ((j - 1 : Nat) : Int) = factAt d (j - 1) := by unfold factAt; rw [Y2 h4, Y3 h4]
    simp only [h3, decide_true, cond_true, Ya (show 0 < j by omega) (by omega), Y0 h4, grd_true, hb, Y74 (hv _ h4) (hv _ hj) hN, Option.bind_some, h0, decide_false, Bool.false_or]
    by_cases h5 : cmpFacts (factAt d (j - 1)) (factAt d j) < 0
    ·have : ¬ cmpFacts (factAt d (j - 1)) (factAt d j) >= 0 := by omega
     simp [h5, this]
    ·have : cmpFacts (factAt d (j - 1)) (factAt d j) >= 0 := by omega
     simp [h5, this]
theorem Y5p {d : Db} (h : SmallDb d) (hN : 1048576 < N) : Z12 N d = some (validDb d) := by
 have hv : ∀ j, j < d.2.length -> (factAt d j).2.length <= 1048576 := fun j hj => by unfold factAt; rw [Y3 hj]; exact h.vals _ (List.getElem_mem hj)
 unfold Z12 Z6q
 rw [Y3q h.rels hN, Option.bind_some]
 unfold validDb
 cases validRels d.1 with
 | false => rfl
 | true =>
  simp only [Bool.not_true, cond_false, Bool.true_and]
  by_cases h14 : d.2.length <= 14
  ·have : ¬ (d.2.length : Int) > 14 := by omega
   simp only [this, decide_false, cond_false, h14, decide_true, Bool.true_and]
   rw [Y9 (n := d.2.length) (fun j => fact1 d.1 (factAt d j) && (decide (j = 0) || decide (cmpFacts (factAt d (j - 1)) (factAt d j) < 0))) (some false) (some true) (fun k i => Z1r N k d.1 d.2 d.2 (d.2.length : Int) i)
    (fun k => by simp [Z1r, Z3m]) (fun k j hj => ?_) (by omega)]
   ·unfold factsOk
    by_cases h2 : ∀ j, j < d.2.length -> (fact1 d.1 (factAt d j) && (decide (j = 0) || decide (cmpFacts (factAt d (j - 1)) (factAt d j) < 0))) = true
    ·rw [if_pos h2, decide_eq_true h2]
    ·rw [if_neg h2, decide_eq_false h2]
   ·have h1 : (j : Int) < (d.2.length : Int) := by omega
    have ha : at_ (0, []) d.2 (j : Int) = factAt d j := by unfold factAt; rw [Y2 hj, Y3 hj]
    simp only [Z1r, Z3m, h1, decide_true, cond_true, Y0 hj, grd_true, ha, Y5o h.rels (hv j hj) hN, Option.bind_some, Y1 (j := j) (by omega)]
    cases fact1 d.1 (factAt d j) with
    | false => rfl
    | true =>
     simp only [Bool.not_true, cond_false, Bool.true_and]
     by_cases h0 : j = 0
     ·subst h0; simp
     ·have h3 : (j : Int) > 0 := by omega
      have h4 : j - 1 < d.2.length := by omega
      have hb : at_ (0, []) d.2 ((j - 1 : Nat) : Int) = factAt d (j - 1) := by unfold factAt; rw [Y2 h4, Y3 h4]
      simp only [h3, decide_true, cond_true, Ya (show 0 < j by omega) (by omega), Y0 h4, grd_true, hb, Y75 (hv _ h4) (hv _ hj) hN, Option.bind_some, h0, decide_false, Bool.false_or]
      by_cases h5 : cmpFacts (factAt d (j - 1)) (factAt d j) < 0
      ·have : ¬ cmpFacts (factAt d (j - 1)) (factAt d j) >= 0 := by omega
       simp [h5, this]
      ·have : cmpFacts (factAt d (j - 1)) (factAt d j) >= 0 := by omega
       simp [h5, this]
  ·have : (d.2.length : Int) > 14 := by omega
   simp [this, h14]
theorem Y1f : ∀ (a b c : List Int), cmpInts a b < 0 -> cmpInts b c < 0 -> cmpInts a c < 0
 | [], [], c, h, _ => by simp [cmpInts] at h
 | [], _ :: _, [], _, h => by simp [cmpInts] at h
 | [], _ :: _, _ :: _, _, _ => by simp [cmpInts]
 | _ :: _, [], c, h, _ => by simp [cmpInts] at h
 | _ :: _, _ :: _, [], _, h => by simp [cmpInts] at h
 | x :: a, y :: b, z :: c, h1, h2 => by
  simp only [cmpInts] at h1 h2 ⊢
  by_cases hxy : x < y
  ·by_cases hyz : y < z
   ·rw [if_pos (by omega)]; omega
   ·rw [if_neg hyz] at h2
    split at h2
    ·omega
    ·rw [if_pos (by omega)]; omega
  ·rw [if_neg hxy] at h1
   split at h1
   ·omega
   ·have : x = y := by omega
    subst this
    by_cases hyz : x < z
    ·rw [if_pos hyz]; omega
    ·rw [if_neg hyz] at h2 ⊢
     split at h2
     ·omega
     ·rename_i hg
      rw [if_neg hg]
      exact Y1f a b c h1 h2
theorem Y2q {a b c : Fact} (h1 : cmpFacts a b < 0) (h2 : cmpFacts b c < 0) : cmpFacts a c < 0 := by
 unfold cmpFacts at h1 h2 ⊢
 by_cases hab : a.1 < b.1
 ·by_cases hbc : b.1 < c.1
  ·rw [if_pos (by omega)]; omega
  ·rw [if_neg hbc] at h2
   split at h2
   ·omega
   ·rw [if_pos (by omega)]; omega
 ·rw [if_neg hab] at h1
  split at h1
  ·omega
  ·by_cases hbc : b.1 < c.1
   ·rw [if_pos (by omega)]; omega
   ·rw [if_neg hbc] at h2
    split at h2
    ·omega
    ·rw [if_neg (by omega), if_neg (by omega)]
     exact Y1f _ _ _ h1 h2
theorem Z0ba : ∀ (n : Nat) (a b c : List Int), cmpInts a b < 0 -> cmpInts b c < 0 -> a.take n = c.take n -> a.length = b.length -> b.length = c.length -> a.take n = b.take n
 | 0, _, _, _, _, _, _, _, _ => by simp
 | n + 1, [], [], _, h, _, _, _, _ => by simp [cmpInts] at h
 | n + 1, [], _ :: _, _, _, _, _, h, _ => by simp at h
 | n + 1, _ :: _, [], _, _, _, _, h, _ => by simp at h
 | n + 1, _ :: _, _ :: _, [], _, _, _, _, h => by simp at h
 | n + 1, x :: a, y :: b, z :: c, h1, h2, h3, h4, h5 => by
  simp only [List.take_succ_cons, List.cons.injEq] at h3 ⊢
  simp only [cmpInts] at h1 h2
  obtain ⟨rfl, h3⟩ := h3
  by_cases hxy : x < y
  ·rw [if_neg (by omega), if_pos (by omega)] at h2; omega
  ·rw [if_neg hxy] at h1
   split at h1
   ·omega
   ·have : x = y := by omega
    subst this
    rw [if_neg (by omega), if_neg (by omega)] at h2
    exact ⟨rfl, Z0ba n a b c h1 h2 h3 (by simpa using h4) (by simpa using h5)⟩
section
variable (S : Nat -> Nat -> Bool)
def blk (n s : Nat) : List Nat := (List.range n).filter (S s)
def isSt (s : Nat) : Bool := (List.range s).all fun k => !S s k
def sts (n : Nat) : List Nat := (List.range n).filter (isSt S)
def B (n : Nat) : List (List Nat) := (sts S n).map (blk S n)
structure Runs (n : Nat) : Prop where
 refl : ∀ i, S i i = true
 symm : ∀ i k, S i k = true -> S k i = true
 trans : ∀ i j k, S i j = true -> S j k = true -> S i k = true
 run : ∀ i j k, i <= j -> j <= k -> k < n -> S i k = true -> S i j = true
variable {S}
theorem Y6 {s : Nat} : isSt S s = true ↔ ∀ k, k < s -> S s k = false := by
 unfold isSt
 rw [List.all_eq_true]
 constructor
 ·intro h k hk
  have := h k (List.mem_range.2 hk)
  simpa using this
 ·intro h k hk
  rw [h k (List.mem_range.1 hk)]; rfl
theorem Yh (n : Nat) : sts S (n + 1) = sts S n ++ (if isSt S n = true then [n] else []) := by
 unfold sts
 rw [List.range_succ, List.filter_append]
 congr 1
 by_cases h : isSt S n = true <;> simp [h]
theorem Yy (n s : Nat) : blk S (n + 1) s = blk S n s ++ (if S s n = true then [n] else []) := by
 unfold blk
 rw [List.range_succ, List.filter_append]
 congr 1
 by_cases h : S s n = true <;> simp [h]
theorem Y1u {n s : Nat} : s ∈ sts S n ↔ s < n /\ isSt S s = true := by
 unfold sts; rw [List.mem_filter, List.mem_range]
theorem Y5q {n : Nat} (h : isSt S n = true) : blk S n n = [] := by
 unfold blk
 rw [List.filter_eq_nil_iff]
 intro k hk
 rw [Y6.1 h k (List.mem_range.1 hk)]; simp
theorem Y53 {N n : Nat} (hS : Runs S N) (h : isSt S n = true) : B S (n + 1) = B S n ++ [[n]] := by
 unfold B
 rw [Yh, if_pos h, List.map_append]
 congr 1
 ·apply List.map_congr_left
  intro s hs
  obtain ⟨h1, h2⟩ := Y1u.1 hs
  rw [Yy, if_neg, List.append_nil]
  intro hc
  have := hS.symm _ _ hc
  rw [Y6.1 h s h1] at this
  simp at this
 ·simp only [List.map_cons, List.map_nil]
  rw [Yy, Y5q h, if_pos (hS.refl n)]; rfl
theorem Yt {N : Nat} (hS : Runs S N) : ∀ n, 0 < n -> n <= N -> ∃ A t, sts S n = A ++ [t] /\ t < n /\ isSt S t = true /\ ∀ k, t <= k -> k < n -> S t k = true
 | 0, h, _ => by omega
 | n + 1, _, hN => by
  by_cases h : isSt S n = true
  ·refine ⟨sts S n, n, by rw [Yh, if_pos h], by omega, h, fun k h1 h2 => ?_⟩
   have : k = n := by omega
   subst this
   exact hS.refl _
  ·have hn : 0 < n := by
    apply Decidable.byContradiction
    intro h0
    have : n = 0 := by omega
    subst this
    apply h
    rw [Y6]; intro k hk; omega
   obtain ⟨A, t, e, h1, h2, h3⟩ := Yt hS n hn (by omega)
   refine ⟨A, t, by rw [Yh, if_neg h, List.append_nil]; exact e, by omega, h2, fun k k1 k2 => ?_⟩
   by_cases hk : k < n
   ·exact h3 k k1 hk
   ·have : k = n := by omega
    subst this
    obtain ⟨q, q1, q2⟩ : ∃ q, q < k /\ S k q = true := by
     apply Decidable.byContradiction
     intro hc
     apply h
     rw [Y6]
     intro q hq
     rw [Bool.eq_false_iff]
     exact fun hs => hc ⟨q, hq, hs⟩
    have q3 := hS.symm _ _ q2
    have q4 := hS.run q (k - 1) k (by omega) (by omega) (by omega) q3
    exact hS.trans _ _ _ (h3 (k - 1) (by omega) (by omega)) (hS.trans _ _ _ (hS.symm _ _ q4) q3)
theorem Y54 {N n : Nat} (hS : Runs S N) (h : ¬ isSt S n = true) (hn : n < N) {A : List Nat} {t : Nat} (e : sts S n = A ++ [t]) (ht : S t n = true) : B S (n + 1) = A.map (blk S n) ++ [blk S n t ++ [n]] := by
 unfold B
 rw [Yh, if_neg h, List.append_nil, e, List.map_append]
 congr 1
 ·apply List.map_congr_left
  intro s hs
  rw [Yy, if_neg, List.append_nil]
  intro hc
  have hst := hS.trans _ _ _ hc (hS.symm _ _ ht)
  have m1 := Y1u.1 (show s ∈ sts S n by rw [e]; simp [hs])
  have m2 := Y1u.1 (show t ∈ sts S n by rw [e]; simp)
  have hne : s ≠ t := by
   have hnd : (sts S n).Nodup := List.nodup_range.sublist List.filter_sublist
   rw [e] at hnd
   exact fun h => (List.nodup_append.1 hnd).2.2 s hs t (by simp) h
  by_cases hlt : s < t
  ·have := Y6.1 m2.2 s hlt
   rw [hS.symm _ _ hst] at this; simp at this
  ·have := Y6.1 m1.2 t (by omega)
   rw [hst] at this; simp at this
 ·simp only [List.map_cons, List.map_nil]
  rw [Yy, if_pos ht]
theorem Y28 {n s : Nat} (hr : S s s = true) (hs : s < n) : ∃ h r, blk S n s = h :: r /\ S s h = true /\ (h = s ↔ isSt S s = true) := by
 have hm : s ∈ blk S n s := List.mem_filter.2 ⟨List.mem_range.2 hs, hr⟩
 cases hb : blk S n s with
 | nil => rw [hb] at hm; simp at hm
 | cons h r =>
  have hh : (blk S n s).head? = some h := by rw [hb]; rfl
  unfold blk at hh
  rw [List.head?_filter, List.find?_range_eq_some] at hh
  obtain ⟨h1, h2, h3⟩ := hh
  refine ⟨h, r, rfl, h1, ?_⟩
  constructor
  ·intro e
   subst e
   rw [Y6]
   intro k hk
   have := h3 k hk
   simpa using this
  ·intro hst
   have h4 : ¬ h < s := fun hlt => by
    rw [Y6.1 hst h hlt] at h1; simp at h1
   have h5 : ¬ s < h := fun hlt => by
    have := h3 s hlt
    rw [hr] at this; simp at this
   omega
theorem Y29 {N : Nat} (hS : Runs S N) : ∀ n, n <= N -> ((B S n).map List.length).sum = n
 | 0, _ => by simp [B, sts]
 | n + 1, hn => by
  by_cases h : isSt S n = true
  ·rw [Y53 hS h, List.map_append, List.sum_append, Y29 hS n (by omega)]; simp
  ·have hn0 : 0 < n := by
    apply Decidable.byContradiction
    intro h0
    have : n = 0 := by omega
    subst this
    apply h
    rw [Y6]; intro k hk; omega
   obtain ⟨A, t, e, h1, h2, h3⟩ := Yt hS (n + 1) (by omega) hn
   have e' : sts S n = A ++ [t] := by rw [Yh, if_neg h, List.append_nil] at e; exact e
   have ih := Y29 hS n (by omega)
   rw [Y54 hS h (by omega) e' (h3 n (by omega) (by omega))]
   unfold B at ih
   rw [e'] at ih
   simp only [List.map_append, List.sum_append, List.map_cons, List.map_nil, List.sum_cons, List.sum_nil, List.length_append, List.length_singleton] at ih ⊢
   omega
end
def keyLen (l : List Rel) (f : Fact) : Int := (l.getD f.1.toNat (⟨#[]⟩, 0, 0)).2.2
def keyOf (l : List Rel) (f : Fact) : List Int := f.2.take (keyLen l f).toNat
def sameK (l : List Rel) (a b : Fact) : Bool := decide (a.1 = b.1) && decide (keyOf l a = keyOf l b)
theorem Y3t {r : Rel} (h : validRel r = true) : 0 <= r.2.2 /\ r.2.2 <= r.2.1 := by
 unfold validRel Z5 at h
 by_cases h1 : r.1.size = 1
 ·have hb : ∃ b, byteAt r.1 0 = some b := by
   unfold byteAt
   have : (0 : Int).toNat < r.1.size := by omega
   exact ⟨r.1[(0 : Int).toNat], by rw [if_pos (by omega), getElem?_pos]⟩
  obtain ⟨b, hb⟩ := hb
  rw [hb] at h
  simp only [Option.bind_some, l1In] at h
  by_cases h2 : 0 <= r.2.2 /\ r.2.2 <= r.2.1
  ·exact h2
  ·rw [decide_eq_false h2] at h
   exfalso
   revert h
   cases ((r.1.size : Int) == 1) <;> cases decide ((b.toNat : Int) >= 97) <;> cases decide ((b.toNat : Int) <= 122) <;> cases decide (1 <= r.2.1 /\ r.2.1 <= 3) <;> simp
 ·have h0 : ((r.1.size : Int) == 1) = false := by rw [beqI]; simp; omega
  rw [h0] at h
  simp at h
theorem Y1l {l : List Rel} (h : validRels l = true) {j : Nat} (hj : j < l.length) : validRel (l.getD j (⟨#[]⟩, 0, 0)) = true := by
 have := (of_decide_eq_true h).1 j hj
 rw [Bool.and_eq_true] at this
 exact this.1
structure GoodFact (l : List Rel) (f : Fact) : Prop where
 lo : 0 <= f.1
 hi : f.1 < (l.length : Int)
 len : (f.2.length : Int) = (l.getD f.1.toNat (⟨#[]⟩, 0, 0)).2.1
 k0 : 0 <= keyLen l f
 k1 : keyLen l f <= (f.2.length : Int)
theorem Yi {l : List Rel} {f : Fact} (hl : validRels l = true) (hf : fact1 l f = true) : GoodFact l f := by
 unfold fact1 at hf
 rw [Bool.and_eq_true, Bool.and_eq_true, decide_eq_true_eq, decide_eq_true_eq] at hf
 obtain ⟨⟨h1, h2⟩, h3, h4⟩ := hf
 have := Y3t (Y1l hl (j := f.1.toNat) (by omega))
 exact ⟨h1, by omega, h3, this.1, by rw [h3]; exact this.2⟩
theorem Y5r {a b : List Int} (ha : a.length <= 1048576) (hN : 1048576 < N) : Z1m N a b = some (decide (a = b)) := by
 unfold Z1m Z69
 by_cases hl : a.length = b.length
 ·have : ((a.length : Int) != (b.length : Int)) = false := by rw [bneI]; simp; omega
  rw [this, cond_false, Y2d (n := a.length) (fun j => decide (a[j]? = b[j]?)) (fun k i => Z1l N k a b (a.length : Int) i) (fun k => by simp [Z1l, Z32]) (fun k j hj => ?_) (by omega)]
  ·congr 1
   exact decide_eq_decide.2 (Y4d hl).symm
  ·have h1 : (j : Int) < (a.length : Int) := by omega
   have hjb : j < b.length := by omega
   simp only [Z1l, Z32, h1, decide_true, cond_true, Y0 hj, Y0 hjb, grd_true, Y2 hj, Y2 hjb, Y1 (j := j) (by omega), bneI, List.getElem?_eq_getElem hj, List.getElem?_eq_getElem hjb, Option.some.injEq]
   by_cases h : a[j] = b[j] <;> simp [h]
 ·have : ((a.length : Int) != (b.length : Int)) = true := by rw [bneI]; simp; omega
  have hne : ¬ a = b := fun h => hl (by rw [h])
  rw [this, cond_true, decide_eq_false hne]
theorem Ye {lo hi : Int} {n : Nat} (h1 : 0 <= lo) (h2 : lo <= hi) (h3 : hi <= (n : Int)) : subOk lo hi n = true := by
 unfold subOk; rw [decide_eq_true h1, decide_eq_true h2, decide_eq_true h3]; rfl
theorem Y4 {α : Type} {s x : List α} {b : Nat} (hb : b <= 1000) (h : s.length + x.length <= 140737488355) : appOk s x b = true := by
 unfold appOk
 refine decide_eq_true ?_
 calc (s.length + x.length) * b <= 140737488355 * 1000 := Nat.mul_le_mul h hb
  _ <= _ := by omega
theorem Y4q {l : List Rel} {f : Fact} (hl : l.length <= 1048576) (hf : f.2.length <= 1048576) (hN : 1048576 < N) (hv : validRels l = true) (h1 : fact1 l f = true) : Z6g N l f = some (keyOf l f) := by
 have g := Yi hv h1
 have e : (at_ (⟨#[]⟩, 0, 0) l f.1).2.2 = keyLen l f := rfl
 unfold Z6g
 rw [Y17 hl hf hN, hv, h1, Option.bind_some, Yc g.lo g.hi, grd_true]
 simp only [Bool.and_self, Bool.not_true, cond_false, e]
 rw [Ye (by omega) g.k0 g.k1, grd_true, Y4 (by omega) (by simp only [List.length_nil, List.length_take]; omega), grd_true]
 rfl
theorem Y6j {l : List Rel} {a b : Fact} (hl : l.length <= 1048576) (ha : a.2.length <= 1048576) (hb : b.2.length <= 1048576) (hN : 1048576 < N) (hv : validRels l = true) (h1 : fact1 l a = true) (h2 : fact1 l b = true) : Z37 N l a b = some (sameK l a b) := by
 unfold Z37 sameK
 rw [Y17 hl ha hN, Y17 hl hb hN, hv, h1, h2]
 simp only [Bool.and_self, Option.bind_some, cond_true, beqI]
 by_cases h : a.1 = b.1
 ·rw [decide_eq_true h, cond_true, Y4q hl ha hN hv h1, Y4q hl hb hN hv h2, Option.bind_some, Option.bind_some,
   Y3r (by unfold keyOf; rw [List.length_take]; omega) (by unfold keyOf; rw [List.length_take]; omega) hN, Option.bind_some, Bool.true_and]
  congr 1
  exact decide_eq_decide.2 (Y2e _ _)
 ·rw [decide_eq_false h]; rfl
theorem Y6k {l : List Rel} {a b : Fact} (ha : a.2.length <= 1048576) (hb : b.2.length <= 1048576) (hN : 1048576 < N) (hv : validRels l = true) (h1 : fact1 l a = true) (h2 : fact1 l b = true) : Z5z N l a b = some (sameK l a b) := by
 have g := Yi hv h1
 have g' := Yi hv h2
 have e : (at_ (⟨#[]⟩, 0, 0) l a.1).2.2 = keyLen l a := rfl
 unfold Z5z sameK
 rw [bneI]
 by_cases h : a.1 = b.1
 ·have hk : keyLen l a = keyLen l b := by unfold keyLen; rw [h]
  rw [decide_eq_true h, Bool.not_true, cond_false, Yc g.lo g.hi, grd_true, e]
  rw [Ye (by omega) g.k0 g.k1, grd_true, Ye (by omega) g.k0 (by have := g'.k1; rw [<- hk] at this; exact this), grd_true, Y5r (by rw [List.length_take]; omega) hN, Option.bind_some, Bool.true_and]
  unfold keyOf
  rw [<- hk]
 ·rw [decide_eq_false h]; rfl
def sameD (d : Db) (i k : Nat) : Bool := sameK d.1 (factAt d i) (factAt d k)
structure ValidDb (d : Db) : Prop where
 rels : validRels d.1 = true
 few : d.2.length <= 14
 fact : ∀ j, j < d.2.length -> fact1 d.1 (factAt d j) = true
 lt : ∀ i k, i < k -> k < d.2.length -> cmpFacts (factAt d i) (factAt d k) < 0
theorem Y7 {d : Db} (h : validDb d = true) : ValidDb d := by
 unfold validDb at h
 rw [Bool.and_eq_true, Bool.and_eq_true, decide_eq_true_eq, decide_eq_true_eq] at h
 obtain ⟨h1, h2, h3⟩ := h
 refine ⟨h1, h2, fun j hj => ?_, ?_⟩
 ·have := h3 j hj
  rw [Bool.and_eq_true] at this
  exact this.1
 ·have step : ∀ j, 0 < j -> j < d.2.length -> cmpFacts (factAt d (j - 1)) (factAt d j) < 0 := by
   intro j h0 hj
   have := h3 j hj
   rw [Bool.and_eq_true, Bool.or_eq_true, decide_eq_true_eq, decide_eq_true_eq] at this
   rcases this.2 with h | h
   ·omega
   ·exact h
  intro i k
  induction k with
  | zero => intro h; omega
  | succ k ih =>
   intro hik hk
   have hs := step (k + 1) (by omega) hk
   rw [Nat.add_sub_cancel] at hs
   by_cases h : i = k
   ·subst h; exact hs
   ·exact Y2q (ih (by omega) (by omega)) hs
theorem runs {d : Db} (h : ValidDb d) : Runs (sameD d) d.2.length := by
 refine ⟨fun i => by simp [sameD, sameK], fun i k hs => ?_, fun i j k h1 h2 => ?_, fun i j k hij hjk hk hs => ?_⟩
 ·simp only [sameD, sameK, Bool.and_eq_true, decide_eq_true_eq] at hs ⊢
  exact ⟨hs.1.symm, hs.2.symm⟩
 ·simp only [sameD, sameK, Bool.and_eq_true, decide_eq_true_eq] at h1 h2 ⊢
  exact ⟨h1.1.trans h2.1, h1.2.trans h2.2⟩
 ·by_cases e1 : i = j
  ·subst e1; simp [sameD, sameK]
  ·by_cases e2 : j = k
   ·subst e2; exact hs
   ·have l1 := h.lt i j (by omega) (by omega)
    have l2 := h.lt j k (by omega) hk
    have g1 := Yi h.rels (h.fact i (by omega))
    have g2 := Yi h.rels (h.fact j (by omega))
    have g3 := Yi h.rels (h.fact k hk)
    simp only [sameD, sameK, Bool.and_eq_true, decide_eq_true_eq] at hs ⊢
    obtain ⟨s1, s2⟩ := hs
    generalize factAt d i = a at *
    generalize factAt d j = b at *
    generalize factAt d k = c at *
    have hab : a.1 = b.1 := by
     unfold cmpFacts at l1 l2
     by_cases q1 : a.1 < b.1
     ·have : b.1 > c.1 := by omega
      rw [if_neg (by omega), if_pos this] at l2; omega
     ·rw [if_neg q1] at l1
      split at l1
      ·omega
      ·omega
    have hbc : b.1 = c.1 := by omega
    have c1 : cmpInts a.2 b.2 < 0 := by unfold cmpFacts at l1; rw [if_neg (by omega), if_neg (by omega)] at l1; exact l1
    have c2 : cmpInts b.2 c.2 < 0 := by unfold cmpFacts at l2; rw [if_neg (by omega), if_neg (by omega)] at l2; exact l2
    have k1 : keyLen d.1 a = keyLen d.1 b := by unfold keyLen; rw [hab]
    have k2 : keyLen d.1 b = keyLen d.1 c := by unfold keyLen; rw [hbc]
    have n1 := g1.len
    have n2 := g2.len
    have n3 := g3.len
    rw [hab] at n1
    rw [hbc] at n1 n2
    unfold keyOf at s2 ⊢
    rw [<- k2, <- k1] at s2
    rw [<- k1]
    exact ⟨hab, Z0ba _ _ _ _ c1 c2 s2 (by omega) (by omega)⟩
theorem Y18 : ∀ {a b : List Int}, a.Pairwise (· < ·) -> b.Pairwise (· < ·) -> (∀ x, x ∈ a ↔ x ∈ b) -> a = b
 | [], [], _, _, _ => rfl
 | [], y :: b, _, _, h => by have := (h y).2 (by simp); simp at this
 | x :: a, [], _, _, h => by have := (h x).1 (by simp); simp at this
 | x :: a, y :: b, ha, hb, h => by
  rw [List.pairwise_cons] at ha hb
  have e : x = y := by
   have h1 := (h x).1 (by simp)
   have h2 := (h y).2 (by simp)
   rcases List.mem_cons.1 h1 with h1 | h1
   ·exact h1
   ·rcases List.mem_cons.1 h2 with h2 | h2
    ·exact h2.symm
    ·have := ha.1 y h2
     have := hb.1 x h1
     omega
  subst e
  rw [Y18 ha.2 hb.2 fun z => ?_]
  have hz := h z
  simp only [List.mem_cons] at hz
  constructor
  ·intro hm
   have := ha.1 z hm
   rcases hz.1 (.inr hm) with h3 | h3
   ·omega
   ·exact h3
  ·intro hm
   have := hb.1 z hm
   rcases hz.2 (.inr hm) with h3 | h3
   ·omega
   ·exact h3
def uniq (s : List Int) : List Int := ((List.range s.length).filter fun j => decide (j = 0 \/ s.toArray[j]! ≠ s.toArray[j - 1]!)).map fun j => s.toArray[j]!
theorem Yk {s : List Int} {j : Nat} (h : j < s.length) : s.toArray[j]! = s[j] := by
 rw [getElem!_pos s.toArray j (by simpa using h)]; simp
theorem Y4e {s : List Int} (h : s.Pairwise (· <= ·)) : (uniq s).Pairwise (· < ·) := by
 unfold uniq
 rw [List.pairwise_map]
 refine (List.Pairwise.filter _ List.pairwise_lt_range).imp_of_mem fun {i j} hi hj hlt => ?_
 obtain ⟨hj1, hj2⟩ := List.mem_filter.1 hj
 have hj1 := List.mem_range.1 hj1
 rw [decide_eq_true_eq, Yk hj1, Yk (show j - 1 < s.length by omega)] at hj2
 rw [Yk (show i < s.length by omega), Yk hj1]
 have h1 := List.pairwise_iff_getElem.1 h (j - 1) j (by omega) hj1 (by omega)
 have h2 : s[i] <= s[j - 1] := by
  by_cases e : i = j - 1
  ·subst e; exact Int.le_refl _
  ·exact List.pairwise_iff_getElem.1 h i (j - 1) (by omega) (by omega) (by omega)
 rcases hj2 with hj2 | hj2 <;> omega
theorem Y6l {s : List Int} (x : Int) : x ∈ uniq s ↔ x ∈ s := by
 unfold uniq
 rw [List.mem_map]
 constructor
 ·rintro ⟨j, hj, rfl⟩
  have := List.mem_range.1 (List.mem_filter.1 hj).1
  rw [Yk this]
  exact List.getElem_mem this
 ·intro hx
  obtain ⟨j, hj, rfl⟩ := List.mem_iff_getElem.1 hx
  have key : ∀ j (hj : j < s.length), ∃ i, i ∈ ((List.range s.length).filter fun j => decide (j = 0 \/ s.toArray[j]! ≠ s.toArray[j - 1]!)) /\ s.toArray[i]! = s[j] := by
   intro j
   induction j with
   | zero => intro hj; exact ⟨0, List.mem_filter.2 ⟨List.mem_range.2 hj, by simp⟩, Yk hj⟩
   | succ j ih =>
    intro hj
    by_cases e : s[j + 1] = s[j]
    ·obtain ⟨i, h1, h2⟩ := ih (by omega)
     exact ⟨i, h1, by rw [h2, e]⟩
    ·refine ⟨j + 1, List.mem_filter.2 ⟨List.mem_range.2 hj, ?_⟩, Yk hj⟩
     rw [decide_eq_true_eq, Yk hj, Nat.add_sub_cancel, Yk (show j < s.length by omega)]
     exact .inr e
  exact key j hj
def setOf (s : List Int) : List Int := uniq (s.mergeSort fun a b => decide (a <= b))
theorem Y3u (s : List Int) : (setOf s).Pairwise (· < ·) := by
 refine Y4e ?_
 have := List.pairwise_mergeSort (le := fun a b : Int => decide (a <= b)) (fun a b c h1 h2 => by simp only [decide_eq_true_eq] at *; omega) (fun a b => by simp only [Bool.or_eq_true, decide_eq_true_eq]; omega) s
 exact this.imp fun h => by simpa using h
theorem Y2v {s : List Int} (x : Int) : x ∈ setOf s ↔ x ∈ s := by unfold setOf; rw [Y6l, List.mem_mergeSort]
theorem Y5s (s : List Int) : (setOf s).length <= s.length := by
 unfold setOf uniq
 rw [List.length_map, List.length_mergeSort]
 have := List.length_filter_le (fun j => decide (j = 0 \/ (s.mergeSort fun a b => decide (a <= b)).toArray[j]! ≠ (s.mergeSort fun a b => decide (a <= b)).toArray[j - 1]!)) (List.range (s.mergeSort fun a b => decide (a <= b)).length)
 rwa [List.length_range, List.length_mergeSort] at this
theorem Y76 {L : List (List Int)} (hl : L.length <= 1000) (hs : (L.map List.length).sum <= 1000000) (hN : 1048576 < N) : Z1d N L = some L.flatten := by
 unfold Z1d Z5x
 have sum_take : ∀ (L : List (List Int)) (j : Nat), ((L.take j).map List.length).sum <= (L.map List.length).sum := by
  intro L
  induction L with
  | nil => intro j; simp
  | cons b L ih =>
   intro j
   cases j with
   | zero => simp
   | succ j => have := ih j; simp only [List.take_succ_cons, List.map_cons, List.sum_cons]; omega
 have flat_len : ∀ L : List (List Int), L.flatten.length = (L.map List.length).sum := fun L => List.length_flatten
 have inner : Z1g N N [] L (L.length : Int) 0 = some L.flatten := by
  have := loop (fun k (s : Nat) => Z1g N k (L.take s).flatten L (L.length : Int) (s : Int)) (fun s => s <= L.length) (fun s => L.length - s) (fun o => o = some L.flatten) (fun k j hj' => by
   simp only [Z1g, Z4m]
   by_cases hj : j < L.length
   ·right
    refine ⟨j + 1, hj, by omega, ?_⟩
    have h1 : (j : Int) < (L.length : Int) := by omega
    have t := sum_take L (j + 1)
    rw [List.take_succ_eq_append_getElem hj, List.map_append, List.sum_append] at t
    simp only [List.map_cons, List.map_nil, List.sum_cons, List.sum_nil] at t
    simp only [h1, decide_true, cond_true, Y0 hj, grd_true, Y2 hj]
    rw [Y4 (by omega) (by rw [flat_len]; omega), grd_true, Y1 (by omega), List.take_succ_eq_append_getElem hj, List.flatten_append]
    simp only [List.flatten_cons, List.flatten_nil, List.append_nil]
   ·left
    have h1 : ¬ (j : Int) < (L.length : Int) := by omega
    simp only [h1, decide_false, cond_false]
    rw [List.take_of_length_le (by omega)]) N 0 (by omega) (by omega)
  exact this
 have := loop (fun k (s : Nat) => Z2a N k L (((L.take s).map List.length).sum : Int) L (L.length : Int) (s : Int)) (fun s => s <= L.length) (fun s => L.length - s) (fun o => o = some L.flatten) (fun k j hj' => by
  simp only [Z2a, Z4n]
  by_cases hj : j < L.length
  ·right
   refine ⟨j + 1, hj, by omega, ?_⟩
   have h1 : (j : Int) < (L.length : Int) := by omega
   have t := sum_take L (j + 1)
   have e : ((L.take (j + 1)).map List.length).sum = ((L.take j).map List.length).sum + (L[j]).length := by
    rw [List.take_succ_eq_append_getElem hj, List.map_append, List.sum_append]
    simp
   have ew : w64 ((((L.take j).map List.length).sum : Int) + ((L[j]).length : Int)) = (((L.take (j + 1)).map List.length).sum : Int) := by
    rw [e, Y5 (by omega) (by omega)]
    omega
   have h2 : ¬ ((((L.take (j + 1)).map List.length).sum : Nat) : Int) < 0 := by omega
   simp only [h1, decide_true, cond_true, Y0 hj, grd_true, Y2 hj, ew, decide_eq_false h2, cond_false, Y1 (j := j) (by omega)]
  ·left
   have h1 : ¬ (j : Int) < (L.length : Int) := by omega
   have e : L.take j = L := List.take_of_length_le (by omega)
   have g : (decide ((0 : Int) <= ((L.map List.length).sum : Int)) && decide ((([] : List Int).length + (((L.map List.length).sum : Nat) : Int).toNat) * 8 <= 140737488355328)) = true := by
    rw [Bool.and_eq_true, decide_eq_true_eq, decide_eq_true_eq, Int.toNat_natCast]
    simp only [List.length_nil]
    omega
   simp only [h1, decide_false, cond_false, e, Z7b, g, grd_true, Option.bind_some, inner]) N 0 (by omega) (by omega)
 exact this
theorem Y5t {a b : List Int} (ha : a.length <= 100000) (hb : b.length <= 100000) (hN : 1048576 < N) : Z5h N a b = some (setOf (a ++ b)) := by
 unfold Z5h
 rw [Y76 (by simp) (by simp; omega) hN, Option.bind_some]
 unfold Z10 Z67
 have e : [a, b].flatten = a ++ b := by simp
 rw [e, decide_eq_true (by rw [List.length_append]; omega), grd_true]
 rfl
def weightsIn (w : List Int) : Bool := w.all fun x => decide (1 <= x /\ x <= 9)
def validWeights (d : Db) (w : List Int) : Bool := validDb d && (decide (w.length = d.2.length) && weightsIn w)
theorem Y10 {d : Db} {w : List Int} (h : SmallDb d) (hw : w.length <= 1048576) (hN : 1048576 < N) : Z0l N d w = some (validWeights d w) := by
 unfold Z0l Z6o
 rw [Y9 (n := w.length) (fun j => decide (1 <= w.getD j 0 /\ w.getD j 0 <= 9)) (some false) (some (validDb d && decide (w.length = d.2.length))) (fun k i => Z1q N k w d.1 d.2 i)
  (fun k => by
   simp only [Z1q, Z3l, Int.lt_irrefl, decide_false, cond_false, Yr (d := (d.1, d.2)) h hN, Option.bind_some, beqI]
   cases hv : validDb d with
   | false => rfl
   | true => simp only [cond_true, Bool.true_and, Option.some.injEq]; exact decide_eq_decide.2 (by omega)) (fun k j hj => ?_) (by omega)]
 ·unfold validWeights weightsIn
  by_cases h4 : ∀ j, j < w.length -> decide (1 <= w.getD j 0 /\ w.getD j 0 <= 9) = true
  ·rw [if_pos h4, (Y12 (d := (0 : Int)) (p := fun x => decide (1 <= x /\ x <= 9))).1 h4, Bool.and_true]
  ·rw [if_neg h4]
   congr 1; symm
   have : (w.all fun x => decide (1 <= x /\ x <= 9)) = false := by
    rw [Bool.eq_false_iff]
    exact fun h5 => h4 ((Y12 (d := (0 : Int)) (p := fun x => decide (1 <= x /\ x <= 9))).2 h5)
   rw [this, Bool.and_false, Bool.and_false]
 ·have h1 : (j : Int) < (w.length : Int) := by omega
  simp only [Z1q, Z3l, h1, decide_true, cond_true, Y0 hj, grd_true, Y2 hj, l1In, Option.bind_some, Y3 hj, Y1 (j := j) (by omega), Yx]
theorem Y11 {d : Db} {w : List Int} (h : SmallDb d) (hw : w.length <= 1048576) (hN : 1048576 < N) : Z13 N d w = some (validWeights d w) := by
 unfold Z13
 rw [Y5p h hN, Option.bind_some]
 unfold validWeights
 cases validDb d with
 | false => rfl
 | true =>
  simp only [cond_true, Bool.true_and, beqI]
  by_cases he : w.length = d.2.length
  ·have e2 : (w.length : Int) = (d.2.length : Int) := by omega
   rw [decide_eq_true e2, cond_true, decide_eq_true he, Bool.true_and]
   unfold Z3 Z6 Z18
   rw [Yd (d := (0 : Int)) (xs := w) (p := fun x => !decide (1 <= x /\ x <= 9)) (first (n := w.length) (fun j => !decide (1 <= w.getD j 0 /\ w.getD j 0 <= 9)) (fun k i => Z2 N k w (w.length : Int) i) (fun k => by simp [Z2, Z0k]) (fun k j hj => ?_) (by omega))]
   ·simp only [Option.bind_some, weightsIn]
    rw [show (w.any fun x => !decide (1 <= x /\ x <= 9)) = !(w.all fun x => decide (1 <= x /\ x <= 9)) from (List.not_all_eq_any_not (l := w) (p := fun x => decide (1 <= x /\ x <= 9))).symm, Bool.not_not]
   ·have h1 : (j : Int) < (w.length : Int) := by omega
    simp only [Z2, Z0k, h1, decide_true, cond_true, Y0 hj, grd_true, Y2 hj, Z1s, Yg, Option.bind_some, Y3 hj, Y1 (j := j) (by omega)]
    cases decide (1 <= w[j] /\ w[j] <= 9) <;> rfl
  ·have e2 : ¬ (w.length : Int) = (d.2.length : Int) := by omega
   rw [decide_eq_false e2, decide_eq_false he]; rfl
def validSet (n : Nat) (l : List Int) : Bool := decide (∀ j, j < l.length -> (decide (0 <= l.getD j 0 /\ l.getD j 0 <= (n : Int) - 1) && (decide (j = 0) || decide (l.getD (j - 1) 0 < l.getD j 0))) = true)
theorem Y4r {d : Db} {l : List Int} (h : SmallDb d) (hl : l.length <= 1048576) (hN : 1048576 < N) : Z5c N d l = some (validSet d.2.length l) := by
 have hf := h.facts
 unfold Z5c Z9j
 rw [Y9 (n := l.length) (fun j => decide (0 <= l.getD j 0 /\ l.getD j 0 <= (d.2.length : Int) - 1) && (decide (j = 0) || decide (l.getD (j - 1) 0 < l.getD j 0))) (some false) (some true) (fun k i => Z6b N k l d.1 d.2 i)
  (fun k => by simp [Z6b, Z7x]) (fun k j hj => ?_) (by omega)]
 ·unfold validSet
  split
  ·rename_i h4; rw [decide_eq_true h4]
  ·rename_i h4; rw [decide_eq_false h4]
 ·have h1 : (j : Int) < (l.length : Int) := by omega
  simp only [Z6b, Z7x, h1, decide_true, cond_true, Y0 hj, grd_true, Y2 hj, l1In, Option.bind_some, Y3 hj, Y1 (j := j) (by omega), Y5 (show -9223372036854775808 <= (d.2.length : Int) - 1 by omega) (by omega)]
  cases decide (0 <= l[j] /\ l[j] <= (d.2.length : Int) - 1) with
  | false => rfl
  | true =>
   simp only [Bool.not_true, cond_false, Bool.true_and]
   by_cases h0 : j = 0
   ·subst h0; simp
   ·have h3 : (j : Int) > 0 := by omega
    have h4 : j - 1 < l.length := by omega
    simp only [h3, decide_true, cond_true, Ya (show 0 < j by omega) (by omega), Y0 h4, grd_true, Y2 h4, h0, decide_false, Bool.false_or, Y3 h4]
    by_cases h5 : l[j - 1] < l[j]
    ·have : ¬ l[j] <= l[j - 1] := by omega
     simp [h5, this]
    ·have : l[j] <= l[j - 1] := by omega
     simp [h5, this]
theorem Y77 {n : Nat} {l : List Int} (hn : n <= 1048576) (hl : l.length <= 1048576) (hN : 1048576 < N) : Z3t N l (n : Int) = some (validSet n l) := by
 unfold Z3t Z8e
 rw [Y9 (n := l.length) (fun j => decide (0 <= l.getD j 0 /\ l.getD j 0 <= (n : Int) - 1) && (decide (j = 0) || decide (l.getD (j - 1) 0 < l.getD j 0))) (some false) (some true) (fun k i => Z3f N k l (n : Int) l (l.length : Int) i)
  (fun k => by simp [Z3f, Z5g]) (fun k j hj => ?_) (by omega)]
 ·unfold validSet
  split
  ·rename_i h4; rw [decide_eq_true h4]
  ·rename_i h4; rw [decide_eq_false h4]
 ·have h1 : (j : Int) < (l.length : Int) := by omega
  simp only [Z3f, Z5g, h1, decide_true, cond_true, Y0 hj, grd_true, Y2 hj, Yg, Option.bind_some, Y3 hj, Y1 (j := j) (by omega), Y5 (show -9223372036854775808 <= (n : Int) - 1 by omega) (by omega)]
  cases decide (0 <= l[j] /\ l[j] <= (n : Int) - 1) with
  | false => rfl
  | true =>
   simp only [Bool.not_true, cond_false, Bool.true_and]
   by_cases h0 : j = 0
   ·subst h0; simp
   ·have h3 : (j : Int) > 0 := by omega
    have h4 : j - 1 < l.length := by omega
    simp only [h3, decide_true, cond_true, Ya (show 0 < j by omega) (by omega), Y0 h4, grd_true, Y2 h4, h0, decide_false, Bool.false_or, Y3 h4]
    by_cases h5 : l[j - 1] < l[j]
    ·have : ¬ l[j - 1] >= l[j] := by omega
     simp [h5, this]
    ·have : l[j - 1] >= l[j] := by omega
     simp [h5, this]
theorem Y6y (N : Nat) (w l : List Int) : ∀ k n i, Z60 N k w n l (l.length : Int) i = Z11 N k w l n i
 | 0, _, _ => rfl
 | k + 1, n, i => by
  simp only [Z60, Z85, Z11, Z31, Y6y N w l k]
def toI (l : List Nat) : List Int := l.map fun (n : Nat) => (n : Int)
theorem Yu (l : List Nat) : (toI l).length = l.length := by simp [toI]
theorem Y19 (a b : List Nat) : toI (a ++ b) = toI a ++ toI b := by simp [toI]
theorem Y2f (S : Nat -> Nat -> Bool) (n s : Nat) : (blk S n s).length <= n := by
 unfold blk
 exact Nat.le_trans (List.length_filter_le _ _) (Nat.le_of_eq List.length_range)
theorem Y2g (S : Nat -> Nat -> Bool) (n : Nat) : (sts S n).length <= n := by
 unfold sts
 exact Nat.le_trans (List.length_filter_le _ _) (Nat.le_of_eq List.length_range)
theorem Y6z (S : Nat -> Nat -> Bool) (n : Nat) : (B S n).length <= n := by
 unfold B; rw [List.length_map]; exact Y2g S n
theorem Yl {d : Db} {k : Nat} (hk : k < d.2.length) : at_ (0, []) d.2 (k : Int) = factAt d k := by unfold factAt; rw [Y2 hk, Y3 hk]
theorem Yf {d : Db} (h : SmallDb d) {k : Nat} (hk : k < d.2.length) : (factAt d k).2.length <= 1048576 := by unfold factAt; rw [Y3 hk]; exact h.vals _ (List.getElem_mem hk)
theorem Y4f {d : Db} (h : SmallDb d) (hvb : validDb d = true) (hN : 1048576 < N) {i : Nat} (hi : i < d.2.length) : Z5u N d (i : Int) = some (toI (blk (sameD d) d.2.length i)) := by
 have hv := Y7 hvb
 have hf := hv.few
 unfold Z5u Z8w
 have := loop (fun k (s : List Int × Nat) => Z4y N k (i : Int) d.1 d.2 s.1 (s.2 : Int)) (fun s => s.2 <= d.2.length /\ s.1 = toI (blk (sameD d) s.2 i)) (fun s => d.2.length - s.2) (fun o => o = some (toI (blk (sameD d) d.2.length i))) (fun k s hs => by
  obtain ⟨out, j⟩ := s
  obtain ⟨h1, h2⟩ := hs
  simp only at h1 h2 ⊢
  by_cases hj : j < d.2.length
  ·right
   have e1 : (j : Int) < (d.2.length : Int) := by omega
   have e2 : (0 : Int) <= (i : Int) /\ (i : Int) <= (d.2.length : Int) - 1 := by omega
   have e3 : validDb (d.1, d.2) = true := hvb
   have hlen : out.length <= 14 := by rw [h2, Yu]; have := Y2f (sameD d) j i; omega
   refine ⟨(toI (blk (sameD d) (j + 1) i), j + 1), ⟨hj, rfl⟩, by simp only; omega, ?_⟩
   simp only [Z4y, Z6z, e1, decide_true, cond_true, Yr (d := (d.1, d.2)) h hN, e3, Option.bind_some, l1In, Y5 (show -9223372036854775808 <= (d.2.length : Int) - 1 by omega) (by omega), e2, and_self, Y0 hi, Y0 hj, grd_true, Yl hi, Yl hj,
    Y6j h.rels (Yf h hi) (Yf h hj) hN hv.rels (hv.fact i hi) (hv.fact j hj), Y1 (j := j) (by omega)]
   rw [Yy]
   cases hs : sameD d i j with
   | true =>
    have hs' : sameK d.1 (factAt d i) (factAt d j) = true := hs
    rw [hs', cond_true, Y4 (by omega) (by simp only [List.length_singleton]; omega), grd_true, if_pos rfl, Y19, h2]; rfl
   | false =>
    have hs' : sameK d.1 (factAt d i) (factAt d j) = false := hs
    rw [hs', cond_false, if_neg (by simp), List.append_nil, h2]
  ·left
   have : j = d.2.length := by omega
   subst this
   have e1 : ¬ (d.2.length : Int) < (d.2.length : Int) := by omega
   simp only [Z4y, Z6z, e1, decide_false, cond_false, h2]) N ([], 0) (by simp only; omega) ⟨by simp, by simp [blk, toI]⟩
 exact this
def blocksOf (d : Db) : List (List Int) := if validDb d then (B (sameD d) d.2.length).map toI else []
theorem Yv {d : Db} (h : SmallDb d) (hN : 1048576 < N) : Z22 N d = some (blocksOf d) := by
 have hfs := h.facts
 unfold Z22 Z94 blocksOf
 cases hvb : validDb d with
 | false =>
  simp only [Bool.false_eq_true, if_false]
  obtain ⟨n, rfl⟩ : ∃ n, N = n + 1 := ⟨N - 1, by omega⟩
  simp only [Z45, Z5v, Yr (d := (d.1, d.2)) h hN, show validDb (d.1, d.2) = false from hvb, Option.bind_some, cond_false]
  cases decide ((0 : Int) < (d.2.length : Int)) <;> rfl
 | true =>
  simp only [if_true]
  have hv := Y7 hvb
  have hf := hv.few
  have hR := runs hv
  have := loop (fun k (s : List (List Int) × Nat) => Z45 N k d.1 d.2 s.1 (s.2 : Int)) (fun s => s.2 <= d.2.length /\ s.1 = (((sts (sameD d) s.2).map (blk (sameD d) d.2.length)).map toI)) (fun s => d.2.length - s.2) (fun o => o = some ((B (sameD d) d.2.length).map toI)) (fun k s hs => by
   obtain ⟨out, j⟩ := s
   obtain ⟨h1, h2⟩ := hs
   simp only at h1 h2 ⊢
   by_cases hj : j < d.2.length
   ·right
    have e1 : (j : Int) < (d.2.length : Int) := by omega
    have e3 : validDb (d.1, d.2) = true := hvb
    have hlen : out.length <= 14 := by rw [h2, List.length_map, List.length_map]; have := Y2g (sameD d) j; omega
    obtain ⟨q, r, b1, b2, b3⟩ := Y28 (hR.refl j) hj
    have e4 : toI (blk (sameD d) d.2.length j) = (q : Int) :: toI r := by rw [b1]; rfl
    have e5 : inb 0 (toI (blk (sameD d) d.2.length j)) = true := by rw [e4]; exact Y0 (j := 0) (by simp)
    have e6 : at_ 0 (toI (blk (sameD d) d.2.length j)) 0 = (q : Int) := by rw [e4]; exact Y2 (j := 0) (by simp)
    refine ⟨((((sts (sameD d) (j + 1)).map (blk (sameD d) d.2.length)).map toI), j + 1), ⟨hj, rfl⟩, by simp only; omega, ?_⟩
    simp only [Z45, Z5v, e1, decide_true, cond_true, Yr (d := (d.1, d.2)) h hN, e3, Option.bind_some, Y4f (d := (d.1, d.2)) h hvb hN (show j < (d.1, d.2).2.length from hj), Y1 (j := j) (by omega)]
    rw [show sameD (d.1, d.2) = sameD d from rfl, e5, grd_true, e6, beqI, Yh]
    by_cases hst : isSt (sameD d) j = true
    ·have hq := b3.2 hst
     rw [if_pos hst, decide_eq_true (by rw [hq]), cond_true, Y4 (by omega) (by simp only [List.length_singleton]; omega), grd_true, List.map_append, List.map_append, <- h2]; rfl
    ·have hq : ¬ (q : Int) = (j : Int) := fun hc => hst (b3.1 (by omega))
     rw [if_neg hst, decide_eq_false hq, cond_false, List.append_nil, <- h2]
   ·left
    have : j = d.2.length := by omega
    subst this
    have e1 : ¬ (d.2.length : Int) < (d.2.length : Int) := by omega
    simp only [Z45, Z5v, e1, decide_false, cond_false, h2]
    rfl) N ([], 0) (by simp only; omega) ⟨by simp, by simp [sts]⟩
  exact this
theorem Y2r {d : Db} (h : SmallDb d) (hvb : validDb d = true) (hN : 1048576 < N) : Z4i N d = some (blocksOf d) := by
 unfold blocksOf
 rw [if_pos hvb]
 ·have hv := Y7 hvb
  have hf := hv.few
  have hR := runs hv
  unfold Z4i Z9b
  have := loop (fun k (s : List (List Int) × Nat) => Z2m N k d.1 d.2 s.1 d.2 (d.2.length : Int) (s.2 : Int)) (fun s => s.2 <= d.2.length /\ s.1 = (B (sameD d) s.2).map toI) (fun s => d.2.length - s.2) (fun o => o = some ((B (sameD d) d.2.length).map toI)) (fun k s hs => by
   obtain ⟨out, j⟩ := s
   obtain ⟨h1, h2⟩ := hs
   simp only at h1 h2 ⊢
   by_cases hj : j < d.2.length
   ·right
    have e1 : (j : Int) < (d.2.length : Int) := by omega
    have hlen : out.length <= 14 := by rw [h2, List.length_map]; have := Y6z (sameD d) j; omega
    refine ⟨((B (sameD d) (j + 1)).map toI, j + 1), ⟨hj, rfl⟩, by simp only; omega, ?_⟩
    simp only [Z2m, Z7i, e1, decide_true, cond_true, Y0 hj, grd_true, Y1 (j := j) (by omega)]
    rw [Y5 (show -9223372036854775808 <= (out.length : Int) - 1 by omega) (by omega)]
    have new : isSt (sameD d) j = true -> grd (appOk out [[(j : Int)]] 24) (Z2m N k d.1 d.2 (out ++ [[(j : Int)]]) d.2 (d.2.length : Int) ((j + 1 : Nat) : Int)) = Z2m N k d.1 d.2 ((B (sameD d) (j + 1)).map toI) d.2 (d.2.length : Int) ((j + 1 : Nat) : Int) := fun hst => by
     rw [Y4 (by omega) (by simp only [List.length_singleton]; omega), grd_true, Y53 hR hst, List.map_append, <- h2]; rfl
    by_cases h0 : j = 0
    ·subst h0
     have ho : out = [] := by rw [h2]; rfl
     have hn : ¬ (out.length : Int) - 1 >= 0 := by rw [ho]; simp
     rw [decide_eq_false hn, cond_false]
     exact new (Y6.2 (fun k hk => by omega))
    ·obtain ⟨A, t, a1, a2, a3, a4⟩ := Yt hR j (by omega) (by omega)
     obtain ⟨q, r, b1, b2, b3⟩ := Y28 (hR.refl t) a2
     have hq : q = t := b3.2 a3
     subst hq
     have hout : out = ((A.map (blk (sameD d) j)).map toI) ++ [toI (blk (sameD d) j q)] := by
      rw [h2]; unfold B; rw [a1, List.map_append, List.map_append]; rfl
     generalize hX : (A.map (blk (sameD d) j)).map toI = X at hout
     have hl : (out.length : Int) - 1 = (X.length : Int) := by rw [hout]; simp
     have hXl : X.length < out.length := by rw [hout]; simp
     have hat : at_ [] out (X.length : Int) = toI (blk (sameD d) j q) := by
      rw [Y2 hXl]
      simp only [hout]
      rw [List.getElem_append_right (by omega)]
      simp
     have e4 : toI (blk (sameD d) j q) = (q : Int) :: toI r := by rw [b1]; rfl
     have e5 : inb 0 (toI (blk (sameD d) j q)) = true := by rw [e4]; exact Y0 (j := 0) (by simp)
     have e6 : at_ 0 (toI (blk (sameD d) j q)) 0 = (q : Int) := by rw [e4]; exact Y2 (j := 0) (by simp)
     have hql : q < d.2.length := by omega
     rw [hl, decide_eq_true (show (X.length : Int) >= 0 by omega), cond_true, Y0 hXl, grd_true, hat, e5, grd_true, e6, Y0 hql, grd_true, Yl hql, Yl hj,
      Y6k (Yf h hql) (Yf h hj) hN hv.rels (hv.fact q hql) (hv.fact j hj), Option.bind_some]
     cases hs : sameD d q j with
     | true =>
      have hs' : sameK d.1 (factAt d q) (factAt d j) = true := hs
      have hns : ¬ isSt (sameD d) j = true := fun hc => by
       have := Y6.1 hc q a2
       rw [hR.symm _ _ hs] at this; simp at this
      have hbl := Y2f (sameD d) j q
      have hgrow : growOk (X.length : Int) (X.length : Int) out = true := by unfold growOk; rw [decide_eq_true rfl, decide_eq_true (show (0 : Int) <= X.length by omega), decide_eq_true (show (X.length : Int) < (out.length : Int) by omega)]; rfl
      rw [hs', cond_true, grd_true, grd_true, Y4 (by omega) (by rw [Yu]; simp only [List.length_singleton]; omega), grd_true, grd_true, hgrow, grd_true, letv_eq]
      congr 1
      rw [Y54 hR hns hj a1 hs, List.map_append, hX, hout, Int.toNat_natCast, List.set_append_right _ _ (by omega), Nat.sub_self]
      simp [toI]
     | false =>
      have hs' : sameK d.1 (factAt d q) (factAt d j) = false := hs
      rw [hs', cond_false]
      refine new (Y6.2 (fun k hk => ?_))
      rw [Bool.eq_false_iff]
      intro hc
      have c1 := hR.symm _ _ hc
      have c2 := hR.run k (j - 1) j (by omega) (by omega) (by omega) c1
      have c3 := hR.trans _ _ _ (hR.symm _ _ c2) c1
      have c4 := hR.trans _ _ _ (a4 (j - 1) (by omega) (by omega)) c3
      rw [hs] at c4; simp at c4
   ·left
    have : j = d.2.length := by omega
    subst this
    have e1 : ¬ (d.2.length : Int) < (d.2.length : Int) := by omega
    simp only [Z2m, Z7i, e1, decide_false, cond_false, h2]) N ([], 0) (by simp only; have := h.facts; omega) ⟨by simp, by simp [B, sts]⟩
  have this : Z2m N N d.1 d.2 [] d.2 (d.2.length : Int) 0 = some ((B (sameD d) d.2.length).map toI) := this
  exact this
def sizes (d : Db) : List Nat := (blocksOf d).map List.length
theorem Y3v : ∀ (a : List Nat) (j : Nat), (a.take j).sum <= a.sum
 | [], j => by simp
 | x :: a, 0 => by simp
 | x :: a, j + 1 => by have := Y3v a j; simp only [List.take_succ_cons, List.sum_cons]; omega
theorem Yn {d : Db} (hvb : validDb d = true) : (sizes d).sum = d.2.length /\ (∀ x ∈ sizes d, 1 <= x) /\ (sizes d).length <= 14 /\ (blocksOf d).length = (sizes d).length := by
 have hv := Y7 hvb
 have hR := runs hv
 have e : sizes d = (B (sameD d) d.2.length).map List.length := by
  unfold sizes blocksOf
  rw [if_pos hvb, List.map_map]
  apply List.map_congr_left
  intro x _
  exact Yu x
 refine ⟨by rw [e]; exact Y29 hR _ (Nat.le_refl _), ?_, ?_, by unfold sizes; simp⟩
 ·rw [e]
  intro x hx
  obtain ⟨b, hb, rfl⟩ := List.mem_map.1 hx
  unfold B at hb
  obtain ⟨s, hs, rfl⟩ := List.mem_map.1 hb
  obtain ⟨q, r, b1, _⟩ := Y28 (hR.refl s) (Y1u.1 hs).1
  rw [b1]; simp
 ·rw [e, List.length_map]
  have := Y6z (sameD d) d.2.length
  have := hv.few
  omega
theorem Y2s : ∀ {a : List Nat} {x : Nat}, x ∈ a -> x <= a.sum
 | y :: a, x, h => by
  rw [List.sum_cons]
  rcases List.mem_cons.1 h with rfl | h
  ·omega
  ·have := Y2s h; omega
theorem Y5u {d : Db} (h : SmallDb d) (hN : 1048576 < N) : Z3r N d = some (toI (sizes d)) := by
 unfold Z3r Z8d
 rw [Yv h hN, Option.bind_some]
 have hl : (blocksOf d).length <= 14 := by
  cases hvb : validDb d with
  | true => have := Yn hvb; omega
  | false => unfold blocksOf; rw [hvb]; simp
 have := loop (fun k (s : List Int × Nat) => Z3c N k s.1 (blocksOf d) (s.2 : Int)) (fun s => s.2 <= (blocksOf d).length /\ s.1 = toI ((sizes d).take s.2)) (fun s => (blocksOf d).length - s.2) (fun o => o = some (toI (sizes d))) (fun k s hs => by
  obtain ⟨out, j⟩ := s
  obtain ⟨h1, h2⟩ := hs
  simp only at h1 h2 ⊢
  have hsl : (sizes d).length = (blocksOf d).length := by unfold sizes; simp
  by_cases hj : j < (blocksOf d).length
  ·right
   have e1 : (j : Int) < ((blocksOf d).length : Int) := by omega
   have hlen : out.length <= 14 := by rw [h2, Yu, List.length_take]; omega
   refine ⟨(toI ((sizes d).take (j + 1)), j + 1), ⟨hj, rfl⟩, by simp only; omega, ?_⟩
   simp only [Z3c, Z5d, e1, decide_true, cond_true, Y0 hj, grd_true, Y2 hj, Y1 (j := j) (by omega)]
   rw [Y4 (by omega) (by simp only [List.length_singleton]; omega), grd_true, List.take_succ_eq_append_getElem (by omega), Y19, <- h2]
   simp [toI, sizes]
  ·left
   have : j = (blocksOf d).length := by omega
   subst this
   simp only [Z3c, Z5d, Int.lt_irrefl, decide_false, cond_false, h2]
   rw [<- hsl, List.take_length]) N ([], 0) (by simp only; omega) ⟨by simp, by simp [toI]⟩
 exact this
def repR : List (List Int) -> Nat -> List Int
 | [], _ => []
 | b :: M, r => b.getD (r % b.length) 0 :: repR M (r / b.length)
def prodL : List (List Int) -> Nat
 | [] => 1
 | b :: M => b.length * prodL M
def repOf (L : List (List Int)) (r : Nat) : List Int := (repR L.reverse r).reverse
theorem Y5v {L : List (List Int)} {r : Nat} (hl : L.length <= 1000) (hne : ∀ b ∈ L, b ≠ []) (hb : ∀ b ∈ L, b.length <= 1000) (hr : r <= 1000000000) (hN : 1048576 < N) : Z4a N L (r : Int) = some (repOf L r) := by
 unfold Z4a Z8m
 rw [Yq (by omega), grd_true, Y5 (by omega) (by omega), Int.toNat_natCast]
 have := loop (fun k (s : Nat × List Int × Nat) => Z41 N k L (s.1 : Int) s.2.1 ((s.2.2 : Int) - 1)) (fun s => s.1 <= 1000000000 /\ s.2.2 <= L.length /\ ∃ R, s.2.1 = List.replicate s.2.2 0 ++ R /\ (repR (L.take s.2.2).reverse s.1).reverse ++ R = repOf L r) (fun s => s.2.2) (fun o => o = some (repOf L r)) (fun k s hs => by
  obtain ⟨rk, out, j⟩ := s
  obtain ⟨h0, h1, R, h2, h3⟩ := hs
  simp only at h0 h1 h2 h3 ⊢
  cases j with
  | zero =>
   left
   have e : ¬ (((0 : Nat) : Int) - 1 >= 0) := by omega
   simp only [Z41, Z65, decide_eq_false e, cond_false]
   rw [<- h3, h2]; simp [repR]
  | succ j =>
   right
   have hj : j < L.length := by omega
   have ei : ((j + 1 : Nat) : Int) - 1 = (j : Int) := by omega
   have hbl : 0 < (L[j]).length := List.length_pos_iff.2 (hne _ (List.getElem_mem hj))
   have hbh := hb _ (List.getElem_mem hj)
   have hm : rk % (L[j]).length < (L[j]).length := Nat.mod_lt _ hbl
   have em : (rk : Int).tmod ((L[j]).length : Int) = ((rk % (L[j]).length : Nat) : Int) := by
    rw [Int.tmod_eq_emod_of_nonneg (by omega)]; rfl
   have ed : (rk : Int).tdiv ((L[j]).length : Int) = ((rk / (L[j]).length : Nat) : Int) := by
    rw [Int.tdiv_eq_ediv_of_nonneg (by omega)]; rfl
   have hdl : rk / (L[j]).length <= rk := Nat.div_le_self _ _
   have ho : j < out.length := by rw [h2]; simp; omega
   have hz : ((L[j]).length : Int) ≠ 0 := by omega
   refine ⟨(rk / (L[j]).length, List.replicate j 0 ++ ((L[j])[rk % (L[j]).length] :: R), j), ⟨by simp only; omega, by simp only; omega, _, rfl, ?_⟩, by simp only; omega, ?_⟩
   ·rw [<- h3, List.take_succ_eq_append_getElem hj, List.reverse_append, List.reverse_singleton, List.singleton_append]
    simp only [repR, List.reverse_cons, List.append_assoc, List.singleton_append]
    rw [List.getD_eq_getElem?_getD, List.getElem?_eq_getElem hm]; rfl
   ·simp only [Z41, Z65, ei, show (j : Int) >= 0 by omega, decide_true, cond_true, Y0 hj, grd_true, Y2 hj, Yp hz, em, ed, Y0 hm, Y0 ho, Y2 hm, letv_eq, Int.toNat_natCast]
    rw [Y5 (x := ((rk / (L[j]).length : Nat) : Int)) (Int.le_trans (by decide) (Int.natCast_nonneg _)) (Int.le_trans (Int.ofNat_le.2 (Nat.le_trans hdl h0)) (by decide)), Y5 (x := (j : Int) - 1) (by omega) (by omega)]
    congr 1
    rw [h2, List.replicate_succ', List.append_assoc, List.set_append_right _ _ (by simp)]
    simp) N (r, List.replicate L.length 0, L.length) (by simp only; omega) ⟨hr, Nat.le_refl _, [], by simp, by simp [repOf]⟩
 exact this
theorem Y5w : ∀ x : Nat, x <= 2 ^ x
 | 0 => by simp
 | x + 1 => by have := Y5w x; rw [Nat.pow_succ]; have : 1 <= 2 ^ x := Nat.one_le_two_pow; omega
theorem Y3w : ∀ M : List (List Int), prodL M <= 2 ^ ((M.map List.length).sum)
 | [] => by simp [prodL]
 | b :: M => by
  have := Y3w M
  simp only [prodL, List.map_cons, List.sum_cons, Nat.pow_add]
  exact Nat.mul_le_mul (Y5w _) this
theorem Y1m : ∀ A B : List (List Int), prodL (A ++ B) = prodL A * prodL B
 | [], B => by simp [prodL]
 | b :: A, B => by simp only [List.cons_append, prodL, Y1m A B, Nat.mul_assoc]
theorem Y3x {L : List (List Int)} (hl : L.length <= 1000) (hs : (L.map List.length).sum <= 20) (hN : 1048576 < N) : Z2s N L = some (prodL L : Int) := by
 unfold Z2s Z7v
 have := loop (fun k (s : Nat × Nat) => Z2n N k (s.1 : Int) L (L.length : Int) (s.2 : Int)) (fun s => s.2 <= L.length /\ s.1 = prodL (L.take s.2)) (fun s => L.length - s.2) (fun o => o = some (prodL L : Int)) (fun k s hh => by
  obtain ⟨n, j⟩ := s
  obtain ⟨h1, h2⟩ := hh
  simp only at h1 h2 ⊢
  by_cases hj : j < L.length
  ·right
   have e1 : (j : Int) < (L.length : Int) := by omega
   have e2 : prodL (L.take (j + 1)) = n * (L[j]).length := by
    rw [List.take_succ_eq_append_getElem hj, Y1m, <- h2]; simp [prodL]
   have e3 : prodL (L.take (j + 1)) <= 1048576 := by
    have a1 := Y3w (L.take (j + 1))
    have a2 : ((L.take (j + 1)).map List.length).sum <= 20 := by
     rw [List.map_take]; exact Nat.le_trans (Y3v _ _) hs
    have a3 : 2 ^ ((L.take (j + 1)).map List.length).sum <= 2 ^ 20 := Nat.pow_le_pow_right (by omega) a2
    omega
   refine ⟨(prodL (L.take (j + 1)), j + 1), ⟨hj, rfl⟩, by simp only; omega, ?_⟩
   simp only [Z2n, Z4j, e1, decide_true, cond_true, Y0 hj, grd_true, Y2 hj, Y1 (j := j) (by omega)]
   have e4 : (n : Int) * ((L[j]).length : Int) = ((prodL (L.take (j + 1)) : Nat) : Int) := by rw [e2]; simp
   rw [e4, Y5 (by omega) (by omega)]
  ·left
   have : j = L.length := by omega
   subst this
   simp only [Z2n, Z4j, Int.lt_irrefl, decide_false, cond_false, h2, List.take_length]) N (1, 0) (by simp only; omega) ⟨by simp, by simp [prodL]⟩
 exact this
def one (p : Int -> Bool) (x : Int) : Int := if p x then 1 else 0
theorem Y2w {d : Db} (hvb : validDb d = true) : ∀ b ∈ blocksOf d, b ≠ [] /\ b.length <= 14 := by
 intro b hb
 obtain ⟨s1, s2, s3, s4⟩ := Yn hvb
 have hm : b.length ∈ sizes d := List.mem_map.2 ⟨_, hb, rfl⟩
 have h1 := s2 _ hm
 have h2 := Y2s hm
 have hf := (Y7 hvb).few
 exact ⟨fun h => by rw [h] at h1; simp at h1, by omega⟩
theorem Y55 {d : Db} (hvb : validDb d = true) : ∀ b ∈ blocksOf d, ∀ x ∈ b, 0 <= x /\ x < (d.2.length : Int) := by
 intro b hb x hx
 unfold blocksOf at hb
 rw [if_pos hvb] at hb
 obtain ⟨b', hb', rfl⟩ := List.mem_map.1 hb
 unfold B at hb'
 obtain ⟨s, hs, rfl⟩ := List.mem_map.1 hb'
 unfold toI at hx
 obtain ⟨k, hk, rfl⟩ := List.mem_map.1 hx
 have := List.mem_range.1 (List.mem_filter.1 hk).1
 omega
theorem Y4g {r : Rel} (h : validRel r = true) : 1 <= r.2.1 /\ r.2.1 <= 3 := by
 unfold validRel Z5 at h
 by_cases h1 : r.1.size = 1
 ·have hb : ∃ b, byteAt r.1 0 = some b := by
   unfold byteAt
   have : (0 : Int).toNat < r.1.size := by omega
   exact ⟨r.1[(0 : Int).toNat], by rw [if_pos (by omega), getElem?_pos]⟩
  obtain ⟨b, hb⟩ := hb
  rw [hb] at h
  simp only [Option.bind_some, l1In] at h
  by_cases h2 : 1 <= r.2.1 /\ r.2.1 <= 3
  ·exact h2
  ·rw [decide_eq_false h2] at h
   exfalso
   revert h
   cases ((r.1.size : Int) == 1) <;> cases decide ((b.toNat : Int) >= 97) <;> cases decide ((b.toNat : Int) <= 122) <;> simp
 ·have h0 : ((r.1.size : Int) == 1) = false := by rw [beqI]; simp; omega
  rw [h0] at h
  simp at h
abbrev Atm := Int × List Int
abbrev Qry := Int × List Atm × List Int
def arity (l : List Rel) (r : Int) : Int := (l.getD r.toNat (⟨#[]⟩, 0, 0)).2.1
def termsOk (n : Nat) (ts : List Int) : Bool := ts.all fun t => decide (-10 <= t /\ t <= (n : Int) - 1)
def atomAt (as : List Atm) (j : Nat) : Atm := as.getD j (0, [])
def newRel (as : List Atm) (j : Nat) : Bool := !((as.take j).any fun b => decide (b.1 = (atomAt as j).1))
def atomOk (l : List Rel) (n : Nat) (as : List Atm) (j : Nat) : Bool := decide (0 <= (atomAt as j).1 /\ (atomAt as j).1 <= (l.length : Int) - 1) && (decide (((atomAt as j).2.length : Int) = arity l (atomAt as j).1) && (newRel as j && termsOk n (atomAt as j).2))
def occB (as : List Atm) (v : Int) : Bool := as.any fun a => decide (v ∈ a.2)
def allOcc (n : Nat) (as : List Atm) : Bool := decide (∀ v, v < n -> occB as (v : Int) = true)
def atomsOk (l : List Rel) (n : Nat) (as : List Atm) : Bool := decide (∀ j, j < as.length -> atomOk l n as j = true)
def validQ (l : List Rel) (q : Qry) : Bool := validRels l && (decide (0 <= q.1 /\ q.1 <= 4) && (decide (1 <= (q.2.1.length : Int) /\ (q.2.1.length : Int) <= 3) && (atomsOk l q.1.toNat q.2.1 && (allOcc q.1.toNat q.2.1 && validSet q.1.toNat q.2.2))))
theorem Y2a {l : List Rel} {r : Int} (hv : validRels l = true) (h : 0 <= r /\ r <= (l.length : Int) - 1) : 1 <= arity l r /\ arity l r <= 3 := Y4g (Y1l hv (j := r.toNat) (by omega))
def metL (f : Nat -> Bool) : List Bool := [f 0, f 1, f 2, f 3]
theorem Y4s {f : Nat -> Bool} {v : Nat} (h : v < 4) : inb (v : Int) (metL f) = true /\ at_ false (metL f) (v : Int) = f v := by
 have hl : v < (metL f).length := h
 refine ⟨Y0 hl, ?_⟩
 rw [Y2 hl]
 match v, h with
 | 0, _ => rfl
 | 1, _ => rfl
 | 2, _ => rfl
 | 3, _ => rfl
theorem Y6m {f : Nat -> Bool} {t : Nat} (h : t < 4) : (metL f).set t true = metL fun v => f v || decide (v = t) := by
 match t, h with
 | 0, _ => simp [metL]
 | 1, _ => simp [metL]
 | 2, _ => simp [metL]
 | 3, _ => simp [metL]
theorem Y1a {f g : Nat -> Bool} (h : ∀ v, f v = g v) : metL f = metL g := by
 unfold metL
 rw [h 0, h 1, h 2, h 3]
theorem Y5x {N n : Nat} {l : List Rel} {as : List Atm} {fr : List Int} {j : Nat} {a : Int} {ts : List Int} (hn : n <= 4) (hts : ts.length <= 3) (hN : 1048576 < N) (R : List Rel -> Int -> List Atm -> List Int -> List Bool -> Int -> Option Bool) (f : Nat -> Bool) :
  Z19 R N N l (n : Int) as fr (metL f) (j : Int) a ts 0 = if termsOk n ts then R l (n : Int) as fr (metL fun v => f v || decide ((v : Int) ∈ ts)) (w64 ((j : Int) + 1)) else some false := by
 have := loop (fun k (q : Nat) => Z19 R N k l (n : Int) as fr (metL fun v => f v || decide ((v : Int) ∈ ts.take q)) (j : Int) a ts (q : Int)) (fun q => q <= ts.length /\ termsOk n (ts.take q) = true) (fun q => ts.length - q) (fun o => o = if termsOk n ts then R l (n : Int) as fr (metL fun v => f v || decide ((v : Int) ∈ ts)) (w64 ((j : Int) + 1)) else some false) (fun k q hs => by
  obtain ⟨hq', hok⟩ := hs
  simp only [Z19, Z6m]
  by_cases hq : q < ts.length
  ·have e1 : (q : Int) < (ts.length : Int) := by omega
   simp only [e1, decide_true, cond_true, Y0 hq, grd_true, Y2 hq, l1In, Option.bind_some, Y5 (x := (n : Int) - 1) (by omega) (by omega), Y1 (j := q) (by omega)]
   by_cases ht : -10 <= ts[q] /\ ts[q] <= (n : Int) - 1
   ·right
    have hok2 : termsOk n (ts.take (q + 1)) = true := by
     unfold termsOk at *
     rw [List.take_succ_eq_append_getElem hq, List.all_append, hok]
     simp [ht]
    refine ⟨q + 1, ⟨hq, hok2⟩, by omega, ?_⟩
    rw [decide_eq_true ht, Bool.not_true, cond_false]
    by_cases h0 : ts[q] >= 0
    ·obtain ⟨t, e⟩ : ∃ t : Nat, ts[q] = (t : Int) := ⟨ts[q].toNat, by omega⟩
     have ht4 : t < 4 := by omega
     rw [decide_eq_true h0, cond_true, e, (Y4s ht4).1, grd_true, grd_true, letv_eq, Int.toNat_natCast, Y6m ht4]
     congr 1
     refine Y1a fun v => ?_
     rw [List.take_succ_eq_append_getElem hq, e]
     have : decide ((v : Int) ∈ ts.take q ++ [(t : Int)]) = (decide ((v : Int) ∈ ts.take q) || decide (v = t)) := by
      rw [Bool.eq_iff_iff]
      simp only [decide_eq_true_eq, Bool.or_eq_true, List.mem_append, List.mem_singleton]
      constructor
      ·rintro (h | h)
       ·exact .inl h
       ·exact .inr (by omega)
      ·rintro (h | h)
       ·exact .inl h
       ·exact .inr (by omega)
     rw [this, Bool.or_assoc]
    ·rw [decide_eq_false h0, cond_false]
     congr 1
     refine Y1a fun v => ?_
     rw [List.take_succ_eq_append_getElem hq]
     have : decide ((v : Int) ∈ ts.take q ++ [ts[q]]) = decide ((v : Int) ∈ ts.take q) := by
      rw [decide_eq_decide]
      simp only [List.mem_append, List.mem_singleton]
      constructor
      ·rintro (h | h)
       ·exact h
       ·omega
      ·exact .inl
     rw [this]
   ·left
    have : termsOk n ts = false := by
     rw [Bool.eq_false_iff]
     intro h
     unfold termsOk at h
     exact ht (of_decide_eq_true (List.all_eq_true.1 h _ (List.getElem_mem hq)))
    rw [decide_eq_false ht, Bool.not_false, cond_true, this]
    rfl
  ·left
   have : q = ts.length := by omega
   subst this
   rw [List.take_length] at hok
   simp only [Int.lt_irrefl, decide_false, cond_false, List.take_length, hok, if_true]) N 0 (by omega) (by simp [termsOk])
 simpa using this
theorem Y78 {N n : Nat} {l : List Rel} {as : List Atm} {fr : List Int} {met : List Bool} {j : Nat} {ts : List Int} (has : as.length <= 3) (hj : j < as.length) (hN : 1048576 < N) (R : List Rel -> Int -> List Atm -> List Int -> List Bool -> Int -> Option Bool) :
  Z1t R N N l (n : Int) as fr met (j : Int) (atomAt as j).1 ts 0 = if newRel as j then Z19 R N N l (n : Int) as fr met (j : Int) (atomAt as j).1 ts 0 else some false := by
 have := Y9 (n := j) (fun k => !decide ((atomAt as k).1 = (atomAt as j).1)) (some false) (Z19 R N N l (n : Int) as fr met (j : Int) (atomAt as j).1 ts 0) (fun k i => Z1t R N k l (n : Int) as fr met (j : Int) (atomAt as j).1 ts i) (fun k => by simp only [Z1t, Z4d, Int.lt_irrefl, decide_false, cond_false]) (fun k i hi => by
  have h1 : (i : Int) < (j : Int) := by omega
  have h2 : i < as.length := by omega
  simp only [Z1t, Z4d, h1, decide_true, cond_true, Y0 h2, grd_true, Y2 h2, Y1 (j := i) (by omega), beqI]
  have e : atomAt as i = as[i] := Y3 h2
  rw [e]
  by_cases hh : as[i].1 = (atomAt as j).1
  ·simp [hh]
  ·simp [hh]) (k := N) (by omega)
 rw [this]
 have e : newRel as j = decide (∀ i, i < j -> (!decide ((atomAt as i).1 = (atomAt as j).1)) = true) := by
  unfold newRel
  rw [Bool.eq_iff_iff, decide_eq_true_eq, Bool.not_eq_true', List.any_eq_false]
  constructor
  ·intro h i hi
   have hm : atomAt as i ∈ as.take j := by
    rw [show atomAt as i = as[i]'(by omega) from Y3 (by omega)]
    rw [List.mem_iff_getElem]
    exact ⟨i, by rw [List.length_take]; omega, by rw [List.getElem_take]⟩
   have := h _ hm
   simpa using this
  ·intro h b hb
   obtain ⟨i, hi, rfl⟩ := List.mem_iff_getElem.1 hb
   have hi2 : i < j := by rw [List.length_take] at hi; omega
   rw [List.getElem_take]
   have := h i hi2
   rw [show atomAt as i = as[i]'(by omega) from Y3 (by omega)] at this
   simpa using this
 rw [e]
 by_cases hh : ∀ i, i < j -> (!decide ((atomAt as i).1 = (atomAt as j).1)) = true
 ·rw [if_pos hh, decide_eq_true hh, if_pos rfl]
 ·rw [if_neg hh, decide_eq_false hh]
  rfl
theorem Y79 {N n : Nat} {as : List Atm} {fr : List Int} {f : Nat -> Bool} (hn : n <= 4) (hfr : fr.length <= 1048576) (hN : 1048576 < N) :
  Z1v N N (n : Int) as fr (metL f) 0 = some (decide (∀ v, v < n -> f v = true) && validSet n fr) := by
 have h4 : Z1u N N (n : Int) as fr 0 = some (validSet n fr) := by
  rw [Y9 (n := fr.length) (fun j => decide (0 <= fr.getD j 0 /\ fr.getD j 0 <= (n : Int) - 1) && (decide (j = 0) || decide (fr.getD (j - 1) 0 < fr.getD j 0))) (some false) (some true) (fun k i => Z1u N k (n : Int) as fr i)
   (fun k => by simp [Z1u, Z4e]) (fun k j hj => ?_) (by omega)]
  ·unfold validSet
   split
   ·rename_i h4; rw [decide_eq_true h4]
   ·rename_i h4; rw [decide_eq_false h4]
  ·have h1 : (j : Int) < (fr.length : Int) := by omega
   simp only [Z1u, Z4e, h1, decide_true, cond_true, Y0 hj, grd_true, Y2 hj, l1In, Option.bind_some, Y3 hj, Y1 (j := j) (by omega), Y5 (show -9223372036854775808 <= (n : Int) - 1 by omega) (by omega)]
   cases decide (0 <= fr[j] /\ fr[j] <= (n : Int) - 1) with
   | false => rfl
   | true =>
    simp only [Bool.not_true, cond_false, Bool.true_and]
    by_cases h0 : j = 0
    ·subst h0; simp
    ·have h3 : (j : Int) > 0 := by omega
     have h4 : j - 1 < fr.length := by omega
     simp only [h3, decide_true, cond_true, Ya (show 0 < j by omega) (by omega), Y0 h4, grd_true, Y2 h4, h0, decide_false, Bool.false_or, Y3 h4]
     by_cases h5 : fr[j - 1] < fr[j]
     ·have : ¬ fr[j] <= fr[j - 1] := by omega
      simp [h5, this]
     ·have : fr[j] <= fr[j - 1] := by omega
      simp [h5, this]
 rw [Y9 (n := n) f (some false) (some (validSet n fr)) (fun k i => Z1v N k (n : Int) as fr (metL f) i) (fun k => by simp only [Z1v, Z4f, Int.lt_irrefl, decide_false, cond_false, h4]) (fun k j hj => ?_) (by omega)]
 ·split
  ·rename_i h; rw [decide_eq_true h, Bool.true_and]
  ·rename_i h; rw [decide_eq_false h, Bool.false_and]
 ·have h1 : (j : Int) < (n : Int) := by omega
  obtain ⟨m1, m2⟩ := Y4s (f := f) (show j < 4 by omega)
  simp only [Z1v, Z4f, h1, decide_true, cond_true, m1, grd_true, m2, Y1 (j := j) (by omega)]
  cases f j <;> simp
theorem Y3y {as : List Atm} {j : Nat} (hj : j < as.length) (v : Int) : occB (as.take (j + 1)) v = (occB (as.take j) v || decide (v ∈ (atomAt as j).2)) := by
 unfold occB
 rw [List.take_succ_eq_append_getElem hj, List.any_append, show atomAt as j = as[j] from Y3 hj]
 simp
theorem Y5y {l : List Rel} {q : Qry} (hl : l.length <= 1048576) (hq : q.2.2.length <= 1048576) (hN : 1048576 < N) : Z2p N l q = some (validQ l q) := by
 obtain ⟨n, as, fr⟩ := q
 simp only at hq
 unfold Z2p Z7o validQ
 rw [Y16 hl hN, Option.bind_some, l1In, l1In]
 cases hv : validRels l with
 | false => rfl
 | true =>
  by_cases hn : 0 <= n /\ n <= 4
  ·by_cases ha : 1 <= (as.length : Int) /\ (as.length : Int) <= 3
   ·obtain ⟨n, rfl⟩ : ∃ m : Nat, n = (m : Int) := ⟨n.toNat, by omega⟩
    simp only [Bool.not_true, cond_false, Option.bind_some, decide_eq_true hn, decide_eq_true ha, Bool.true_and, Int.toNat_natCast]
    rw [show makeOk 4 1 = true from rfl, grd_true]
    have hl4 : l.length <= 4 := (of_decide_eq_true hv).2
    have := loop (fun k (j : Nat) => Z2h N k l (n : Int) as fr (metL fun v => occB (as.take j) (v : Int)) (j : Int)) (fun j => j <= as.length /\ ∀ i, i < j -> atomOk l n as i = true) (fun j => as.length - j) (fun o => o = some (atomsOk l n as && (allOcc n as && validSet n fr))) (fun k j hs => by
     obtain ⟨hj', hok⟩ := hs
     simp only [Z2h, Z6n]
     by_cases hj : j < as.length
     ·have e1 : (j : Int) < (as.length : Int) := by omega
      have ea : atomAt as j = as[j] := Y3 hj
      have bad : atomOk l n as j = false -> some false = some (atomsOk l n as && (allOcc n as && validSet n fr)) := fun h => by
       have : atomsOk l n as = false := by
        unfold atomsOk
        rw [decide_eq_false_iff_not]
        intro hh
        have := hh j hj
        rw [h] at this
        cases this
       rw [this]; rfl
      simp only [e1, decide_true, cond_true, Y0 hj, grd_true, Y2 hj, l1In, Option.bind_some, Y5 (x := (l.length : Int) - 1) (by omega) (by omega), <- ea]
      by_cases c1 : 0 <= (atomAt as j).1 /\ (atomAt as j).1 <= (l.length : Int) - 1
      ·obtain ⟨ar1, ar2⟩ := Y2a hv c1
       rw [decide_eq_true c1, Bool.not_true, cond_false, Yc c1.1 (by omega), grd_true, bneI]
       rw [show (at_ (⟨#[]⟩, (0, 0)) l (atomAt as j).1).2.1 = arity l (atomAt as j).1 from rfl]
       by_cases c2 : ((atomAt as j).2.length : Int) = arity l (atomAt as j).1
       ·rw [decide_eq_true c2, Bool.not_true, cond_false, Y78 (by omega) hj hN]
        cases c3 : newRel as j with
        | false =>
         left
         exact bad (by unfold atomOk; rw [c3, Bool.false_and, Bool.and_false, Bool.and_false])
        | true =>
         rw [if_pos rfl, Y5x (by omega) (by omega) hN]
         cases c4 : termsOk n (atomAt as j).2 with
         | false =>
          left
          exact bad (by unfold atomOk; rw [c4, Bool.and_false, Bool.and_false, Bool.and_false])
         | true =>
          right
          refine ⟨j + 1, ⟨hj, fun i hi => ?_⟩, by omega, ?_⟩
          ·by_cases e : i = j
           ·subst e
            unfold atomOk
            rw [decide_eq_true c1, decide_eq_true c2, c3, c4]; rfl
           ·exact hok i (by omega)
          ·rw [if_pos rfl, Y1 (by omega)]
           congr 1
           exact Y1a fun v => (Y3y hj (v : Int)).symm
       ·left
        rw [decide_eq_false c2, Bool.not_false, cond_true]
        exact bad (by unfold atomOk; rw [decide_eq_false c2, Bool.false_and, Bool.and_false])
      ·left
       rw [decide_eq_false c1, Bool.not_false, cond_true]
       exact bad (by unfold atomOk; rw [decide_eq_false c1, Bool.false_and])
     ·left
      have : j = as.length := by omega
      subst this
      have hao : atomsOk l n as = true := decide_eq_true hok
      simp only [Int.lt_irrefl, decide_false, cond_false, Y79 (show n <= 4 by omega) hq hN, List.take_length, hao, Bool.true_and]
      rfl) N 0 (by omega) ⟨by omega, fun i hi => by omega⟩
    exact this
   ·simp [hn, ha]
  ·simp [hn]
theorem Y7a {as : List Atm} {a : Atm} (has : as.length <= 1000) (hN : 1048576 < N) : Z1 N as a = some (as.any fun b => decide (b.1 = a.1)) := by
 unfold Z1 Z7 Z1b
 rw [Yd (d := ((0, []) : Atm)) (xs := as) (p := fun b => decide (b.1 = a.1)) (first (n := as.length) (fun j => decide ((as.getD j (0, [])).1 = a.1)) (fun k i => Z4 N k as a (as.length : Int) i) (fun k => by simp [Z4, Z0m]) (fun k j hj => ?_) (by omega))]
 have h1 : (j : Int) < (as.length : Int) := by omega
 simp only [Z4, Z0m, Z2k, h1, decide_true, cond_true, Y0 hj, grd_true, Y2 hj, Y3 hj, Option.bind_some, Y1 (j := j) (by omega), beqI]
 cases decide (as[j].1 = a.1) <;> rfl
def varsIn (ts : List Int) : List Int := ts.filter fun t => decide (0 <= t /\ t <= 3)
theorem Y6n {a : Atm} (ha : a.2.length <= 1000) (hN : 1048576 < N) : Z2g N a = some (setOf (varsIn a.2)) := by
 unfold Z2g Z7g varsIn
 have := loop (fun k (q : Nat) => Z3g N k ((a.2.take q).filter fun t => decide (0 <= t /\ t <= 3)) a.2 (a.2.length : Int) (q : Int)) (fun q => q <= a.2.length) (fun q => a.2.length - q) (fun o => o = some (setOf (a.2.filter fun t => decide (0 <= t /\ t <= 3)))) (fun k q hq' => by
  simp only [Z3g, Z68]
  by_cases hq : q < a.2.length
  ·right
   refine ⟨q + 1, hq, by omega, ?_⟩
   have h1 : (q : Int) < (a.2.length : Int) := by omega
   have hl := List.length_filter_le (fun t => decide (0 <= t /\ t <= 3)) (a.2.take q)
   rw [List.length_take] at hl
   simp only [h1, decide_true, cond_true, Y0 hq, grd_true, Y2 hq, Yg, Option.bind_some, Y1 (j := q) (by omega)]
   rw [List.take_succ_eq_append_getElem hq, List.filter_append]
   by_cases ht : 0 <= a.2[q] /\ a.2[q] <= 3
   ·rw [decide_eq_true ht, cond_true, Y4 (by omega) (by simp only [List.length_singleton]; omega), grd_true]
    simp [ht]
   ·rw [decide_eq_false ht, cond_false]
    simp [ht]
  ·left
   have : q = a.2.length := by omega
   subst this
   have hl := List.length_filter_le (fun t => decide (0 <= t /\ t <= 3)) a.2
   simp only [Int.lt_irrefl, decide_false, cond_false, List.take_length]
   rw [Y5t (by omega) (by simp) hN, Option.bind_some, List.append_nil]) N 0 (by omega) (by omega)
 simpa using this
def varsOf (as : List Atm) : List Int := ((List.range 4).filter fun (v : Nat) => occB as (v : Int)).map fun (v : Nat) => (v : Int)
theorem Y2h {as : List Atm} {x : Int} : x ∈ varsOf as ↔ (0 <= x /\ x <= 3) /\ occB as x = true := by
 unfold varsOf
 rw [List.mem_map]
 constructor
 ·rintro ⟨v, hv, rfl⟩
  obtain ⟨h1, h2⟩ := List.mem_filter.1 hv
  have := List.mem_range.1 h1
  exact ⟨by omega, h2⟩
 ·rintro ⟨h1, h2⟩
  exact ⟨x.toNat, List.mem_filter.2 ⟨List.mem_range.2 (by omega), by rw [show ((x.toNat : Nat) : Int) = x by omega]; exact h2⟩, by omega⟩
theorem Y3g (as : List Atm) : (varsOf as).Pairwise (· < ·) := by
 unfold varsOf
 rw [List.pairwise_map]
 exact (List.Pairwise.filter _ List.pairwise_lt_range).imp fun h => by omega
theorem Y56 (as : List Atm) : (varsOf as).length <= 4 := by
 unfold varsOf
 rw [List.length_map]
 have := List.length_filter_le (fun v : Nat => occB as (v : Int)) (List.range 4)
 rwa [List.length_range] at this
theorem Y4h {as : List Atm} {j : Nat} (hj : j < as.length) : setOf (varsOf (as.take j) ++ setOf (varsIn (atomAt as j).2)) = varsOf (as.take (j + 1)) := by
 refine Y18 (Y3u _) (Y3g _) fun x => ?_
 rw [Y2v, List.mem_append, Y2v, Y2h, Y2h, Y3y hj]
 unfold varsIn
 rw [List.mem_filter, decide_eq_true_eq, Bool.or_eq_true, decide_eq_true_eq]
 constructor
 ·rintro (⟨h1, h2⟩ | ⟨h1, h2⟩)
  ·exact ⟨h1, .inl h2⟩
  ·exact ⟨h2, .inr h1⟩
 ·rintro ⟨h1, h2 | h2⟩
  ·exact .inl ⟨h1, h2⟩
  ·exact .inr ⟨h2, h1⟩
theorem Y57 {n : Nat} {as : List Atm} (hn : n <= 4) (hok : ∀ j, j < as.length -> termsOk n (atomAt as j).2 = true) : decide (((varsOf as).length : Int) = (n : Int)) = allOcc n as := by
 have hlt : ∀ v : Int, occB as v = true -> v <= (n : Int) - 1 := by
  intro v hv
  unfold occB at hv
  obtain ⟨a, ha, hva⟩ := List.any_eq_true.1 hv
  obtain ⟨j, hj, rfl⟩ := List.mem_iff_getElem.1 ha
  have := hok j hj
  rw [show atomAt as j = as[j] from Y3 hj] at this
  unfold termsOk at this
  exact (of_decide_eq_true (List.all_eq_true.1 this v (of_decide_eq_true hva))).2
 have e : (varsOf as).length = ((List.range n).filter fun (v : Nat) => occB as (v : Int)).length := by
  unfold varsOf
  rw [List.length_map]
  have e4 : List.range 4 = List.range n ++ (List.range (4 - n)).map (n + ·) := by
   rw [<- List.range_add, show n + (4 - n) = 4 by omega]
  rw [e4, List.filter_append, List.length_append]
  have : ((List.range (4 - n)).map (n + ·)).filter (fun v : Nat => occB as (v : Int)) = [] := by
   rw [List.filter_eq_nil_iff]
   intro v hv
   obtain ⟨k, _, rfl⟩ := List.mem_map.1 hv
   intro h
   have := hlt _ h
   omega
  rw [this]; rfl
 rw [e]
 unfold allOcc
 rw [decide_eq_decide]
 have hl := List.length_filter_le (fun v : Nat => occB as (v : Int)) (List.range n)
 rw [List.length_range] at hl
 constructor
 ·intro h v hv
  have h2 : ((List.range n).filter fun v : Nat => occB as (v : Int)).length = (List.range n).length := by rw [List.length_range]; omega
  exact List.length_filter_eq_length_iff.1 h2 v (List.mem_range.2 hv)
 ·intro h
  have h2 : ((List.range n).filter fun v : Nat => occB as (v : Int)).length = (List.range n).length := List.length_filter_eq_length_iff.2 fun v hv => h v (List.mem_range.1 hv)
  rw [h2, List.length_range]
theorem Y5z {N n : Nat} {l : List Rel} {as : List Atm} {fr occ : List Int} {j : Nat} {a : Int} {ts : List Int} (hn : n <= 4) (hts : ts.length <= 3) (ho : occ.length <= 4) (hN : 1048576 < N) (R : List Rel -> Int -> List Atm -> List Int -> List Int -> List Atm -> Int -> Int -> Option Bool) :
  Z20 R N N l (n : Int) as fr occ a ts as (as.length : Int) (j : Int) ts (ts.length : Int) 0 = if termsOk n ts then R l (n : Int) as fr (setOf (occ ++ setOf (varsIn ts))) as (as.length : Int) (w64 ((j : Int) + 1)) else some false := by
 have hv := Y6n (N := N) (a := (a, ts)) (show ts.length <= 1000 by omega) hN
 have hl1 : (varsIn ts).length <= 3 := Nat.le_trans (List.length_filter_le _ _) hts
 have hl2 := Y5s (varsIn ts)
 have hu := Y5t (N := N) (a := occ) (b := setOf (varsIn ts)) (by omega) (by omega) hN
 rw [Y9 (n := ts.length) (fun k => decide (-10 <= ts.getD k 0 /\ ts.getD k 0 <= (n : Int) - 1)) (some false) (R l (n : Int) as fr (setOf (occ ++ setOf (varsIn ts))) as (as.length : Int) (w64 ((j : Int) + 1))) (fun k i => Z20 R N k l (n : Int) as fr occ a ts as (as.length : Int) (j : Int) ts (ts.length : Int) i) (fun k => by
  simp only [Z20, Z4h, Int.lt_irrefl, decide_false, cond_false, hv, hu, Option.bind_some]) (fun k i hi => by
  have h1 : (i : Int) < (ts.length : Int) := by omega
  simp only [Z20, Z4h, h1, decide_true, cond_true, Y0 hi, grd_true, Y2 hi, Yg, Option.bind_some, Y5 (x := (n : Int) - 1) (by omega) (by omega), Y3 hi, Y1 (j := i) (by omega)]
  cases decide (-10 <= ts[i] /\ ts[i] <= (n : Int) - 1) <;> simp) (by omega)]
 have e : termsOk n ts = decide (∀ k, k < ts.length -> decide (-10 <= ts.getD k 0 /\ ts.getD k 0 <= (n : Int) - 1) = true) := by
  unfold termsOk
  rw [Bool.eq_iff_iff, decide_eq_true_eq]
  exact (Y12 (d := (0 : Int)) (p := fun t => decide (-10 <= t /\ t <= (n : Int) - 1))).symm
 rw [e]
 by_cases h : ∀ k, k < ts.length -> decide (-10 <= ts.getD k 0 /\ ts.getD k 0 <= (n : Int) - 1) = true
 ·rw [if_pos h, decide_eq_true h, if_pos rfl]
 ·rw [if_neg h, decide_eq_false h]; rfl
theorem Y60 {l : List Rel} {q : Qry} (hl : l.length <= 1048576) (hq : q.2.2.length <= 1048576) (hN : 1048576 < N) : Z2r N l q = some (validQ l q) := by
 obtain ⟨n, as, fr⟩ := q
 simp only at hq
 unfold Z2r Z7s validQ
 rw [Y3q hl hN, Option.bind_some, Yg, Yg]
 cases hv : validRels l with
 | false => rfl
 | true =>
  by_cases hn : 0 <= n /\ n <= 4
  ·by_cases ha : 1 <= (as.length : Int) /\ (as.length : Int) <= 3
   ·obtain ⟨n, rfl⟩ : ∃ m : Nat, n = (m : Int) := ⟨n.toNat, by omega⟩
    simp only [Bool.not_true, cond_false, Option.bind_some, decide_eq_true hn, decide_eq_true ha, Bool.true_and, Int.toNat_natCast]
    rw [Y77 (by omega) hq hN, Option.bind_some]
    cases hfs : validSet n fr with
    | false => rw [Bool.and_false, Bool.and_false]; rfl
    | true =>
     rw [Bool.not_true, cond_false, Bool.and_true]
     have hl4 : l.length <= 4 := (of_decide_eq_true hv).2
     have := loop (fun k (j : Nat) => Z2l N k l (n : Int) as fr (varsOf (as.take j)) as (as.length : Int) (j : Int)) (fun j => j <= as.length /\ ∀ i, i < j -> atomOk l n as i = true) (fun j => as.length - j) (fun o => o = some (atomsOk l n as && allOcc n as)) (fun k j hs => by
      obtain ⟨hj', hok⟩ := hs
      simp only [Z2l, Z6r]
      by_cases hj : j < as.length
      ·have e1 : (j : Int) < (as.length : Int) := by omega
       have ea : atomAt as j = as[j] := Y3 hj
       have bad : atomOk l n as j = false -> some false = some (atomsOk l n as && allOcc n as) := fun h => by
        have : atomsOk l n as = false := by
         unfold atomsOk
         rw [decide_eq_false_iff_not]
         intro hh
         have := hh j hj
         rw [h] at this
         cases this
        rw [this]; rfl
       simp only [e1, decide_true, cond_true, Y0 hj, grd_true, Y2 hj, Yg, Option.bind_some, Y5 (x := (l.length : Int) - 1) (by omega) (by omega), <- ea]
       by_cases c1 : 0 <= (atomAt as j).1 /\ (atomAt as j).1 <= (l.length : Int) - 1
       ·obtain ⟨ar1, ar2⟩ := Y2a hv c1
        rw [decide_eq_true c1, Bool.not_true, cond_false, Yc c1.1 (by omega), grd_true, bneI]
        rw [show (at_ (⟨#[]⟩, (0, 0)) l (atomAt as j).1).2.1 = arity l (atomAt as j).1 from rfl]
        by_cases c2 : ((atomAt as j).2.length : Int) = arity l (atomAt as j).1
        ·rw [decide_eq_true c2, Bool.not_true, cond_false, Ye (by omega) (by omega) (by omega), grd_true, Int.toNat_natCast, Y7a (by rw [List.length_take]; omega) hN, Option.bind_some]
         rw [show ((as.take j).any fun b => decide (b.1 = (atomAt as j).1)) = !newRel as j from by unfold newRel; rw [Bool.not_not]]
         cases c3 : newRel as j with
         | false =>
          left
          exact bad (by unfold atomOk; rw [c3, Bool.false_and, Bool.and_false, Bool.and_false])
         | true =>
          rw [Bool.not_true, cond_false, Y5z (by omega) (by omega) (Y56 _) hN]
          cases c4 : termsOk n (atomAt as j).2 with
          | false =>
           left
           exact bad (by unfold atomOk; rw [c4, Bool.and_false, Bool.and_false, Bool.and_false])
          | true =>
           right
           refine ⟨j + 1, ⟨hj, fun i hi => ?_⟩, by omega, ?_⟩
           ·by_cases e : i = j
            ·subst e
             unfold atomOk
             rw [decide_eq_true c1, decide_eq_true c2, c3, c4]; rfl
            ·exact hok i (by omega)
           ·rw [if_pos rfl, Y1 (by omega), Y4h hj]
        ·left
         rw [decide_eq_false c2, Bool.not_false, cond_true]
         exact bad (by unfold atomOk; rw [decide_eq_false c2, Bool.false_and, Bool.and_false])
       ·left
        rw [decide_eq_false c1, Bool.not_false, cond_true]
        exact bad (by unfold atomOk; rw [decide_eq_false c1, Bool.false_and])
      ·left
       have : j = as.length := by omega
       subst this
       have hao : atomsOk l n as = true := decide_eq_true hok
       have ht : ∀ j, j < as.length -> termsOk n (atomAt as j).2 = true := fun j hj => by
        have := hok j hj
        unfold atomOk at this
        simp only [Bool.and_eq_true] at this
        exact this.2.2.2
       simp only [Int.lt_irrefl, decide_false, cond_false, List.take_length, hao, Bool.true_and, beqI]
       rw [Y57 (by omega) ht]) N 0 (by omega) ⟨by omega, fun i hi => by omega⟩
     have e0 : varsOf (as.take 0) = [] := by unfold varsOf occB; simp
     simp only [e0] at this
     exact this
   ·simp [hn, ha]
  ·simp [hn]
def queryFor (d : Db) (q : Qry) : Bool := validDb d && validQ d.1 q
theorem Y1n {d : Db} {q : Qry} (h : SmallDb d) (hq : q.2.2.length <= 1048576) (hN : 1048576 < N) : Z29 N d q = some (queryFor d q) := by
 unfold Z29 queryFor
 rw [Yr h hN, Option.bind_some]
 cases validDb d with
 | false => rfl
 | true => rw [cond_true, Y5y h.rels hq hN]; rfl
theorem Y1o {d : Db} {q : Qry} (h : SmallDb d) (hq : q.2.2.length <= 1048576) (hN : 1048576 < N) : Z2b N d q = some (queryFor d q) := by
 unfold Z2b queryFor
 rw [Y5p h hN, Option.bind_some]
 cases validDb d with
 | false => rfl
 | true => rw [cond_true, Y60 h.rels hq hN]; rfl
theorem Y3z (s : List Int) (v : Int) : (s.any fun x => decide (v = x)) = decide (v ∈ s) := by
 induction s with
 | nil => rfl
 | cons x s ih => simp only [List.any_cons, ih, List.mem_cons, Bool.decide_or]
theorem Y7b {s : List Int} {v : Int} (hs : s.length <= 1048576) (hN : 1048576 < N) : Z14 N s v = some (decide (v ∈ s)) := by
 unfold Z14 Z2e Z6a
 rw [Yd (d := (0 : Int)) (xs := s) (p := fun x => decide (v = x)) (first (n := s.length) (fun j => decide (v = s.getD j 0)) (fun k i => Z1n N k s v (s.length : Int) i) (fun k => by simp [Z1n, Z33]) (fun k j hj => ?_) (by omega)), Y3z]
 have h1 : (j : Int) < (s.length : Int) := by omega
 simp only [Z1n, Z33, h1, decide_true, cond_true, Y0 hj, grd_true, Y2 hj, Y3 hj, Y1 (j := j) (by omega), beqI]
 cases decide (v = s[j]) <;> rfl
theorem Y7c {s : List Int} {v : Int} (hs : s.length <= 1048576) (hN : 1048576 < N) : Z7d N s v = some (decide (v ∈ s)) := by
 unfold Z7d Z9k
 rw [Y9 (n := s.length) (fun j => !decide (s.getD j 0 = v)) (some true) (some false) (fun k i => Z6c N k s v i) (fun k => by simp [Z6c, Z7y]) (fun k j hj => ?_) (by omega)]
 ·by_cases h : v ∈ s
  ·rw [decide_eq_true h]
   obtain ⟨j, hj, rfl⟩ := List.mem_iff_getElem.1 h
   rw [if_neg (fun h' => by have := h' j hj; rw [Y3 hj] at this; simp at this)]
  ·rw [decide_eq_false h, if_pos (fun j hj => by
    rw [Y3 hj]
    have : ¬ s[j] = v := fun e => h (e ▸ List.getElem_mem hj)
    simp [this])]
 ·have h1 : (j : Int) < (s.length : Int) := by omega
  simp only [Z6c, Z7y, h1, decide_true, cond_true, Y0 hj, grd_true, Y2 hj, Y3 hj, Y1 (j := j) (by omega), beqI]
  cases decide (s[j] = v) <;> simp
structure Good (n : Int) (c : List Int) : Prop where
 lit : ∀ x ∈ c, x ≠ 0 /\ -n <= x /\ x <= n
 one : c.Pairwise fun x y => x ≠ y /\ x ≠ -y
theorem Y40 : ∀ (n : Nat) (l : List Nat), l.Nodup -> (∀ x ∈ l, 1 <= x /\ x <= n) -> l.length <= n
 | 0, l, _, h => by
  cases l with
  | nil => simp
  | cons x l => have := h x (by simp); omega
 | n + 1, l, hn, h => by
  have := Y40 n (l.erase (n + 1)) (hn.erase _) (fun x hx => by
   have h1 := (hn.mem_erase_iff).1 hx
   have := h x h1.2
   have := h1.1
   omega)
  rw [List.length_erase] at this
  split at this <;> omega
theorem Good.few {n : Int} {c : List Int} (h0 : 0 <= n) (h : Good n c) : (c.length : Int) <= n := by
 have := Y40 n.toNat (c.map Int.natAbs) (by
  unfold List.Nodup
  rw [List.pairwise_map]
  exact h.one.imp (fun {x y} hxy e => by omega)) (fun x hx => by
  obtain ⟨y, hy, rfl⟩ := List.mem_map.1 hx
  have := h.lit y hy
  omega)
 rw [List.length_map] at this
 omega
theorem Y7d {d : Db} (h : b_Database d) : SmallDb d := ⟨h.1.1, h.2.1, fun f hf => h.2.2 f hf⟩
theorem Y1v {s : List Int} (hs : s.length <= 1000) : Z1j N s = some s := by
 unfold Z1j
 rw [decide_eq_true (by omega), grd_true]
def uni : List Int -> List Int -> List Int -> Option (List Int)
 | [], _, x => some x
 | _ :: _, [], _ => none
 | t :: ts, w :: ws, x => if t < 0 then (if -1 - t = w then uni ts ws x else none)
  else if x.getD t.toNat 0 >= 0 then (if x.getD t.toNat 0 = w then uni ts ws x else none)
  else uni ts ws (x.set t.toNat w)
theorem Y1w : ∀ {ts ws x y : List Int}, uni ts ws x = some y -> y.length = x.length
 | [], _, x, y, h => by simp only [uni, Option.some.injEq] at h; rw [h]
 | _ :: _, [], _, _, h => by simp [uni] at h
 | t :: ts, w :: ws, x, y, h => by
  simp only [uni] at h
  split at h
  ·split at h
   ·exact Y1w h
   ·cases h
  ·split at h
   ·split at h
    ·exact Y1w h
    ·cases h
   ·have := Y1w h
    rwa [List.length_set] at this
theorem Y6o {x : List Int} {t : Nat} (h : t < x.length) {w : Int} (hw : x.getD t 0 = w) : x.set t w = x := by
 rw [Y3 h] at hw
 rw [<- hw]
 exact List.set_getElem_self h
theorem Y1x {N n : Nat} {a2 f2 : Int} {ts ws : List Int} (hts : ts.length <= 3) (hl : ts.length = ws.length) (hn : n <= 4) (ht : termsOk n ts = true) (hN : 1048576 < N) : ∀ (f q : Nat) (x : List Int), ts.length - q < f -> q <= ts.length -> x.length = n -> ∃ y, Z6e N f a2 ts f2 ws x (q : Int) = some (y, (uni (ts.drop q) (ws.drop q) x).isSome) /\ ∀ z, uni (ts.drop q) (ws.drop q) x = some z -> y = z
 | 0, q, x, hf, _, _ => by omega
 | f + 1, q, x, hf, hq', hx => by
  simp only [Z6e, Z8b]
  by_cases hq : q < ts.length
  ·have e1 : (q : Int) < (ts.length : Int) := by omega
   have hqw : q < ws.length := by omega
   have hb := of_decide_eq_true (List.all_eq_true.1 ht _ (List.getElem_mem hq))
   rw [List.drop_eq_getElem_cons hq, List.drop_eq_getElem_cons hqw]
   simp only [e1, decide_true, cond_true, Y0 hq, grd_true, Y2 hq, Y0 hqw, Y2 hqw, Y1 (j := q) (by omega), uni, bneI]
   by_cases h0 : ts[q] < 0
   ·rw [decide_eq_true h0, cond_true, if_pos h0, Y5 (by omega) (by omega)]
    by_cases h1 : -1 - ts[q] = ws[q]
    ·rw [decide_eq_true h1, Bool.not_true, cond_false, if_pos h1]
     exact Y1x hts hl hn ht hN f (q + 1) x (by omega) hq hx
    ·rw [decide_eq_false h1, Bool.not_false, cond_true, if_neg h1]
     exact ⟨x, rfl, fun z hz => by cases hz⟩
   ·obtain ⟨t, e⟩ : ∃ t : Nat, ts[q] = (t : Int) := ⟨ts[q].toNat, by omega⟩
    have htx : t < x.length := by omega
    rw [decide_eq_false h0, cond_false, if_neg h0, e, Y0 htx, grd_true, grd_true, Int.toNat_natCast, Y2 htx, Y3 htx]
    by_cases h1 : x[t] >= 0
    ·rw [decide_eq_true h1, cond_true, if_pos h1]
     by_cases h2 : x[t] = ws[q]
     ·rw [decide_eq_true h2, Bool.not_true, cond_false, if_pos h2, grd_true, grd_true, letv_eq, Y6o htx (by rw [Y3 htx]; exact h2)]
      exact Y1x hts hl hn ht hN f (q + 1) x (by omega) hq hx
     ·rw [decide_eq_false h2, Bool.not_false, cond_true, if_neg h2]
      exact ⟨x, rfl, fun z hz => by cases hz⟩
    ·rw [decide_eq_false h1, cond_false, if_neg h1, grd_true, letv_eq]
     exact Y1x hts hl hn ht hN f (q + 1) (x.set t ws[q]) (by omega) hq (by rw [List.length_set]; exact hx)
  ·have : q = ts.length := by omega
   subst this
   simp only [Int.lt_irrefl, decide_false, cond_false, List.drop_length, uni]
   exact ⟨x, rfl, fun z hz => by cases hz; rfl⟩
theorem Y1y {N n : Nat} {ts ws : List Int} (hts : ts.length <= 3) (hl : ts.length = ws.length) (hn : n <= 4) (ht : termsOk n ts = true) (hN : 1048576 < N) : ∀ (f q : Nat) (x : List Int), ts.length - q < f -> q <= ts.length -> x.length = n -> ∃ y, Z7l N f ws x ts (ts.length : Int) (q : Int) = some (y, (uni (ts.drop q) (ws.drop q) x).isSome) /\ ∀ z, uni (ts.drop q) (ws.drop q) x = some z -> y = z
 | 0, q, x, hf, _, _ => by omega
 | f + 1, q, x, hf, hq', hx => by
  simp only [Z7l, Z8o]
  by_cases hq : q < ts.length
  ·have e1 : (q : Int) < (ts.length : Int) := by omega
   have hqw : q < ws.length := by omega
   have hb := of_decide_eq_true (List.all_eq_true.1 ht _ (List.getElem_mem hq))
   rw [List.drop_eq_getElem_cons hq, List.drop_eq_getElem_cons hqw]
   simp only [e1, decide_true, cond_true, Y0 hq, grd_true, Y2 hq, Y0 hqw, Y2 hqw, Y1 (j := q) (by omega), uni, bneI, Z50, Z40, Option.bind_some]
   by_cases h0 : ts[q] < 0
   ·rw [decide_eq_false (show ¬ ts[q] >= 0 by omega), Bool.not_false, cond_true, if_pos h0, Y5 (by omega) (by omega)]
    by_cases h1 : -1 - ts[q] = ws[q]
    ·rw [decide_eq_true h1, Bool.not_true, cond_false, if_pos h1]
     exact Y1y hts hl hn ht hN f (q + 1) x (by omega) hq hx
    ·rw [decide_eq_false h1, Bool.not_false, cond_true, if_neg h1]
     exact ⟨[], rfl, fun z hz => by cases hz⟩
   ·obtain ⟨t, e⟩ : ∃ t : Nat, ts[q] = (t : Int) := ⟨ts[q].toNat, by omega⟩
    have htx : t < x.length := by omega
    rw [decide_eq_true (show ts[q] >= 0 by omega), Bool.not_true, cond_false, if_neg h0, e, Y0 htx, grd_true, Int.toNat_natCast, Y2 htx, Y3 htx]
    by_cases h1 : x[t] >= 0
    ·rw [decide_eq_false (show ¬ x[t] < 0 by omega), cond_false, if_pos h1, grd_true]
     by_cases h2 : x[t] = ws[q]
     ·rw [decide_eq_true h2, Bool.not_true, cond_false, if_pos h2]
      exact Y1y hts hl hn ht hN f (q + 1) x (by omega) hq hx
     ·rw [decide_eq_false h2, Bool.not_false, cond_true, if_neg h2]
      exact ⟨[], rfl, fun z hz => by cases hz⟩
    ·rw [decide_eq_true (show x[t] < 0 by omega), cond_true, if_neg h1, grd_true, grd_true, letv_eq]
     exact Y1y hts hl hn ht hN f (q + 1) (x.set t ws[q]) (by omega) hq (by rw [List.length_set]; exact hx)
  ·have : q = ts.length := by omega
   subst this
   simp only [Int.lt_irrefl, decide_false, cond_false, List.drop_length, uni]
   exact ⟨x, rfl, fun z hz => by cases hz; rfl⟩
def meetA (a : Atm) (f : Fact) (x : List Int) : Option (List Int) := if f.1 = a.1 then uni a.2 f.2 x else none
def emb (d : Db) (as : List Atm) : Nat -> Nat -> List Int -> List Int -> List (List Int × List Int)
 | 0, _, x, fs => [(x, fs)]
 | m + 1, k, x, fs => (List.range d.2.length).flatMap fun i => match meetA (atomAt as k) (factAt d i) x with
  | some y => emb d as m (k + 1) y (fs ++ [(i : Int)])
  | none => []
theorem Y13 {d : Db} {as : List Atm} (hf : d.2.length <= 14) : ∀ (m k : Nat) (x fs : List Int), (emb d as m k x fs).length <= 14 ^ m
 | 0, k, x, fs => by simp [emb]
 | m + 1, k, x, fs => by
  have := Ym (n := 14 ^ m) (a := List.range d.2.length) (piece := fun i => match meetA (atomAt as k) (factAt d i) x with
   | some y => emb d as m (k + 1) y (fs ++ [(i : Int)])
   | none => []) fun i _ => by
    split
    ·exact Y13 hf m _ _ _
    ·simp
  rw [List.length_range] at this
  show (List.flatMap _ _).length <= _
  rw [Nat.pow_succ, Nat.mul_comm]
  exact Nat.le_trans this (Nat.mul_le_mul_right _ hf)
structure QOk (d : Db) (n : Nat) (as : List Atm) : Prop where
 few : d.2.length <= 14
 n4 : n <= 4
 as3 : as.length <= 3
 terms : ∀ k, k < as.length -> termsOk n (atomAt as k).2 = true /\ (atomAt as k).2.length <= 3
 len : ∀ k i, k < as.length -> i < d.2.length -> (factAt d i).1 = (atomAt as k).1 -> (atomAt as k).2.length = (factAt d i).2.length
theorem qOk {d : Db} {q : Qry} (h : queryFor d q = true) : QOk d q.1.toNat q.2.1 := by
 unfold queryFor validQ at h
 simp only [Bool.and_eq_true, decide_eq_true_eq] at h
 obtain ⟨hvb, hvr, hn, ha, hok, _, _⟩ := h
 have hv := Y7 hvb
 have hat : ∀ k, k < q.2.1.length -> atomOk d.1 q.1.toNat q.2.1 k = true := of_decide_eq_true hok
 refine ⟨hv.few, by omega, by omega, fun k hk => ?_, fun k i hk hi he => ?_⟩
 ·have h1 := hat k hk
  unfold atomOk at h1
  simp only [Bool.and_eq_true, decide_eq_true_eq] at h1
  have h2 := Y2a hvr h1.1
  exact ⟨h1.2.2.2, by omega⟩
 ·have h1 := hat k hk
  unfold atomOk at h1
  simp only [Bool.and_eq_true, decide_eq_true_eq] at h1
  have h2 := (Yi hv.rels (hv.fact i hi)).len
  rw [he] at h2
  have : ((atomAt q.2.1 k).2.length : Int) = ((factAt d i).2.length : Int) := h1.2.1.trans h2.symm
  omega
theorem Y6p {N n : Nat} {d : Db} {as : List Atm} (h : QOk d n as) (hN : 1048576 < N) {k i : Nat} (hk : k < as.length) (hi : i < d.2.length) {x : List Int} (hx : x.length = n) : ∃ y, Z5t N (atomAt as k) (factAt d i) x = some (y, (meetA (atomAt as k) (factAt d i) x).isSome) /\ ∀ z, meetA (atomAt as k) (factAt d i) x = some z -> y = z := by
 have hn := h.n4
 obtain ⟨t1, t2⟩ := h.terms k hk
 unfold Z5t Z8v meetA
 rw [Y4 (by omega) (by simp only [List.length_nil]; omega), grd_true, bneI]
 by_cases e : (factAt d i).1 = (atomAt as k).1
 ·have hl := h.len k i hk hi e
  have h0 : (((factAt d i).2.length : Int) != ((atomAt as k).2.length : Int)) = false := by simp [hl]
  rw [decide_eq_true e, Bool.not_true, cond_false, h0, cond_false, if_pos e]
  have := Y1x (N := N) (n := n) (a2 := (atomAt as k).1) (f2 := (factAt d i).1) t2 hl hn t1 hN N 0 x (by omega) (by omega) hx
  simpa using this
 ·rw [decide_eq_false e, Bool.not_false, cond_true, if_neg e]
  exact ⟨x, rfl, fun z hz => by cases hz⟩
theorem p14 {m : Nat} (h : m <= 3) : 14 ^ m <= 2744 := Nat.le_trans (Nat.pow_le_pow_right (by decide) h) (by decide)
theorem Y41 {a : Atm} {f : Fact} {x y : List Int} (h : meetA a f x = some y) : y.length = x.length := by
 unfold meetA at h
 split at h
 ·exact Y1w h
 ·cases h
theorem Y6q {d : Db} {as : List Atm} (hf : d.2.length <= 14) (m k : Nat) (x fs : List Int) (j : Nat) (hj : j <= d.2.length) : ((List.range j).flatMap fun i => match meetA (atomAt as k) (factAt d i) x with
  | some y => emb d as m (k + 1) y (fs ++ [(i : Int)])
  | none => []).length <= 14 * 14 ^ m := by
 have := Ym (n := 14 ^ m) (a := List.range j) (piece := fun i => match meetA (atomAt as k) (factAt d i) x with
  | some y => emb d as m (k + 1) y (fs ++ [(i : Int)])
  | none => []) fun i _ => by
   split
   ·exact Y13 hf m _ _ _
   ·simp
 rw [List.length_range] at this
 exact Nat.le_trans this (Nat.mul_le_mul_right _ (by omega))
theorem Y4t {N n : Nat} {d : Db} {q : Qry} (h : QOk d n q.2.1) (hN : 1048576 < N) : ∀ (m f k : Nat) (x fs : List Int), m < f -> k + m = q.2.1.length -> x.length = n -> fs.length = k -> Z2i N f d q k x fs = some (emb d q.2.1 m k x fs)
 | _, 0, _, _, _, hf, _, _, _ => by omega
 | 0, f + 1, k, x, fs, hf, hk, hx, hfs => by
  have h3 := h.as3
  have hn := h.n4
  obtain rfl : k = q.2.1.length := by omega
  simp only [Z2i, Z88, beqI, decide_true, cond_true, emb]
  rw [Y4 (by omega) (by simp only [List.length_nil]; omega), Y4 (by omega) (by simp only [List.length_nil]; omega)]
  rfl
 | m + 1, f + 1, k, x, fs, hf, hk, hx, hfs => by
  have h3 := h.as3
  have hn := h.n4
  have hd := h.few
  have hne : ¬ (k : Int) = (q.2.1.length : Int) := by omega
  have hkl : k < q.2.1.length := by omega
  have hp := p14 (m := m) (by omega)
  simp only [Z2i, Z88, beqI, decide_eq_false hne, cond_false]
  have := loop (fun t (j : Nat) => Z6f N (Z2i N f) t (k : Int) x fs d.1 d.2 q.1 q.2.1 q.2.2 ((List.range j).flatMap fun i => match meetA (atomAt q.2.1 k) (factAt d i) x with
    | some y => emb d q.2.1 m (k + 1) y (fs ++ [(i : Int)])
    | none => []) (j : Int)) (fun j => j <= d.2.length) (fun j => d.2.length - j) (fun o => o = some (emb d q.2.1 (m + 1) k x fs)) (fun t j hj' => by
   simp only [Z6f, Z8c]
   by_cases hj : j < d.2.length
   ·right
    refine ⟨j + 1, hj, by omega, ?_⟩
    have e1 : (j : Int) < (d.2.length : Int) := by omega
    have ho := Y6q (as := q.2.1) hd m k x fs j (by omega)
    obtain ⟨y, c1, c2⟩ := Y6p h hN hkl hj hx
    have ea : at_ (0, []) q.2.1 (k : Int) = atomAt q.2.1 k := by rw [Y2 hkl]; exact (Y3 hkl).symm
    have ef : at_ (0, []) d.2 (j : Int) = factAt d j := Yl hj
    simp only [e1, decide_true, cond_true, Y0 hkl, Y0 hj, grd_true, ea, ef, c1, Option.bind_some, Y1 (j := j) (by omega), Y1 (j := k) (by omega)]
    rw [List.range_succ, List.flatMap_append]
    cases hm : meetA (atomAt q.2.1 k) (factAt d j) x with
    | none =>
     simp only [Option.isSome_none, cond_false, List.flatMap_cons, List.flatMap_nil, hm, List.append_nil]
    | some z =>
     obtain rfl := c2 z hm
     have hl := Y13 (as := q.2.1) hd m (k + 1) y (fs ++ [(j : Int)])
     simp only [Option.isSome_some, cond_true, List.flatMap_cons, List.flatMap_nil, hm, List.append_nil]
     rw [Y4 (by omega) (by simp only [List.length_nil]; omega), grd_true, Y4 (by omega) (by simp only [List.length_singleton]; omega), grd_true, Y4t h hN m f (k + 1) y (fs ++ [(j : Int)]) (by omega) (by omega) ((Y41 hm).trans hx) (by simp; omega), Option.bind_some, Y4 (by omega) (by omega), grd_true]
   ·left
    have : j = d.2.length := by omega
    subst this
    simp only [Int.lt_irrefl, decide_false, cond_false]
    rfl) N 0 (by omega) (by omega)
  exact this
theorem Y6r {N n : Nat} {d : Db} {as : List Atm} (h : QOk d n as) (hN : 1048576 < N) {k i : Nat} (hk : k < as.length) (hi : i < d.2.length) (e : (factAt d i).1 = (atomAt as k).1) {x : List Int} (hx : x.length = n) : ∃ y, Z7h N x (atomAt as k).2 (factAt d i).2 = some (y, (meetA (atomAt as k) (factAt d i) x).isSome) /\ ∀ z, meetA (atomAt as k) (factAt d i) x = some z -> y = z := by
 have hn := h.n4
 obtain ⟨t1, t2⟩ := h.terms k hk
 have hl := h.len k i hk hi e
 unfold Z7h Z9n meetA
 rw [Y1v (by omega), Option.bind_some, if_pos e]
 have := Y1y (N := N) (n := n) t2 hl hn t1 hN N 0 x (by omega) (by omega) hx
 simpa using this
theorem Y4u {N n : Nat} {d : Db} {q : Qry} (h : QOk d n q.2.1) (hN : 1048576 < N) : ∀ (m f k : Nat) (x fs : List Int) (out : List (List Int × List Int)), m < f -> k + m = q.2.1.length -> x.length = n -> fs.length = k -> out.length + 14 ^ m <= 100000 -> Z0n N f x fs q out d q d = some (out ++ emb d q.2.1 m k x fs)
 | _, 0, _, _, _, _, hf, _, _, _, _ => by omega
 | 0, f + 1, k, x, fs, out, hf, hk, hx, hfs, ho => by
  have h3 := h.as3
  have hn := h.n4
  have e : (fs.length : Int) = (q.2.1.length : Int) := by omega
  simp only [Z0n, Z3u, beqI, decide_eq_true e, cond_true, Y1v (N := N) (s := x) (by omega), Y1v (N := N) (s := fs) (by omega), Option.bind_some, emb]
  rw [Y4 (by omega) (by simp only [List.length_singleton]; omega)]
  rfl
 | m + 1, f + 1, k, x, fs, out, hf, hk, hx, hfs, ho => by
  have h3 := h.as3
  have hn := h.n4
  have hd := h.few
  have hne : ¬ (fs.length : Int) = (q.2.1.length : Int) := by omega
  have hkl : k < q.2.1.length := by omega
  have hfl : fs.length < q.2.1.length := by omega
  have hp := p14 (m := m) (by omega)
  have ea : at_ (0, []) q.2.1 (fs.length : Int) = atomAt q.2.1 k := by rw [Y2 hfl, hfs.symm]; exact (Y3 hfl).symm
  rw [Nat.pow_succ] at ho
  simp only [Z0n, Z3u, beqI, decide_eq_false hne, cond_false, Y0 hfl, grd_true, ea]
  have := loop (fun t (j : Nat) => Z2c N (Z0n N f) t x fs (out ++ (List.range j).flatMap fun i => match meetA (atomAt q.2.1 k) (factAt d i) x with
    | some y => emb d q.2.1 m (k + 1) y (fs ++ [(i : Int)])
    | none => []) q d (atomAt q.2.1 k).1 (atomAt q.2.1 k).2 d.2 (d.2.length : Int) (j : Int)) (fun j => j <= d.2.length) (fun j => d.2.length - j) (fun o => o = some (out ++ emb d q.2.1 (m + 1) k x fs)) (fun t j hj' => by
   simp only [Z2c, Z4p]
   by_cases hj : j < d.2.length
   ·right
    refine ⟨j + 1, hj, by omega, ?_⟩
    have e1 : (j : Int) < (d.2.length : Int) := by omega
    have hm14 : ∀ j, j <= 13 -> j < d.2.length -> ((List.range j).flatMap fun i => match meetA (atomAt q.2.1 k) (factAt d i) x with
      | some y => emb d q.2.1 m (k + 1) y (fs ++ [(i : Int)])
      | none => []).length <= 13 * 14 ^ m := fun j hj13 _ => by
     have := Ym (n := 14 ^ m) (a := List.range j) (piece := fun i => match meetA (atomAt q.2.1 k) (factAt d i) x with
      | some y => emb d q.2.1 m (k + 1) y (fs ++ [(i : Int)])
      | none => []) fun i _ => by
       split
       ·exact Y13 hd m _ _ _
       ·simp
     rw [List.length_range] at this
     exact Nat.le_trans this (Nat.mul_le_mul_right _ hj13)
    have hlen := hm14 j (by omega) hj
    have ef : at_ (0, []) d.2 (j : Int) = factAt d j := Yl hj
    simp only [e1, decide_true, cond_true, Y0 hj, grd_true, ef, bneI, Y1 (j := j) (by omega)]
    rw [List.range_succ, List.flatMap_append]
    by_cases e : (factAt d j).1 = (atomAt q.2.1 k).1
    ·obtain ⟨y, c1, c2⟩ := Y6r h hN hkl hj e hx
     rw [decide_eq_true e, Bool.not_true, cond_false, c1, Option.bind_some]
     cases hm : meetA (atomAt q.2.1 k) (factAt d j) x with
     | none =>
      simp only [Option.isSome_none, cond_false, List.flatMap_cons, List.flatMap_nil, hm, List.append_nil]
     | some z =>
      obtain rfl := c2 z hm
      simp only [Option.isSome_some, cond_true, List.flatMap_cons, List.flatMap_nil, hm, List.append_nil, Y1v (N := N) (s := fs) (by omega), Option.bind_some]
      rw [Y4 (by omega) (by simp only [List.length_singleton]; omega), grd_true, Y4u h hN m f (k + 1) y (fs ++ [(j : Int)]) _ (by omega) (by omega) ((Y41 hm).trans hx) (by simp; omega) (by rw [List.length_append]; omega), Option.bind_some, List.append_assoc]
    ·have hm : meetA (atomAt q.2.1 k) (factAt d j) x = none := by unfold meetA; rw [if_neg e]
     rw [decide_eq_false e, Bool.not_false, cond_true]
     simp only [List.flatMap_cons, List.flatMap_nil, hm, List.append_nil]
   ·left
    have : j = d.2.length := by omega
    subst this
    simp only [Int.lt_irrefl, decide_false, cond_false]
    rfl) N 0 (by omega) (by omega)
  simpa using this
theorem Y6s {N n : Nat} (hn : n <= 4) (hN : 1048576 < N) : Z4k N (n : Int) = some (List.replicate n (-1)) := by
 unfold Z4k Z8u
 have := loop (fun k (j : Nat) => Z6d N k (n : Int) (List.replicate j (-1))) (fun j => j <= n) (fun j => n - j) (fun o => o = some (List.replicate n (-1))) (fun k j hj' => by
  simp only [Z6d, Z8a, List.length_replicate]
  by_cases hj : j < n
  ·right
   refine ⟨j + 1, hj, by omega, ?_⟩
   have e1 : (j : Int) < (n : Int) := by omega
   rw [decide_eq_true e1, cond_true, Y4 (by omega) (by simp only [List.length_replicate, List.length_singleton]; omega), grd_true, List.replicate_succ']
  ·left
   have : j = n := by omega
   subst this
   simp only [Int.lt_irrefl, decide_false, cond_false]) N 0 (by omega) (by omega)
 exact this
theorem Y6t {N n : Nat} (hn : n <= 4) : Z4o N (n : Int) = some (List.replicate n (-1)) := by
 unfold Z4o Z6i
 have e : (decide (([-1] : List Int).length = 1) && (decide ((0 : Int) <= (n : Int)) && decide ((n : Int) * 8 <= 140737488355328))) = true := by
  rw [Bool.and_eq_true, Bool.and_eq_true, decide_eq_true_eq, decide_eq_true_eq, decide_eq_true_eq]
  exact ⟨rfl, by omega, by omega⟩
 rw [e, grd_true, Int.toNat_natCast]
 rfl
def embs (d : Db) (q : Qry) : List (List Int × List Int) := if queryFor d q then emb d q.2.1 q.2.1.length 0 (List.replicate q.1.toNat (-1)) [] else []
theorem Y6u {d : Db} {q : Qry} (h : SmallDb d) (hq : q.2.2.length <= 1048576) (hN : 1048576 < N) : Z26 N d q = some (embs d q) := by
 unfold Z26 embs
 rw [Y1n h hq hN, Option.bind_some]
 cases hf : queryFor d q with
 | false => rfl
 | true =>
  have ho := qOk hf
  have hn := ho.n4
  have h3 := ho.as3
  have hq0 : 0 <= q.1 := by
   unfold queryFor validQ at hf
   simp only [Bool.and_eq_true, decide_eq_true_eq] at hf
   exact hf.2.2.1.1
  have e : Z4k N q.1 = some (List.replicate q.1.toNat (-1)) := by
   have := Y6s (N := N) hn hN
   rwa [show ((q.1.toNat : Nat) : Int) = q.1 by omega] at this
  rw [Bool.not_true, cond_false, e, Option.bind_some, if_pos rfl]
  have := Y4t ho hN q.2.1.length N 0 (List.replicate q.1.toNat (-1)) [] (by omega) (by omega) (by simp) rfl
  rw [show ((0 : Nat) : Int) = 0 from rfl] at this
  unfold Z73
  rw [this]
  rfl
theorem Y6v {d : Db} {q : Qry} (h : SmallDb d) (hq : q.2.2.length <= 1048576) (hN : 1048576 < N) : Z27 N d q = some (embs d q) := by
 unfold Z27 embs
 rw [Y1o h hq hN, Option.bind_some]
 cases hf : queryFor d q with
 | false => rfl
 | true =>
  have ho := qOk hf
  have hn := ho.n4
  have h3 := ho.as3
  have hq0 : 0 <= q.1 := by
   unfold queryFor validQ at hf
   simp only [Bool.and_eq_true, decide_eq_true_eq] at hf
   exact hf.2.2.1.1
  have e : Z4o N q.1 = some (List.replicate q.1.toNat (-1)) := by
   have := Y6t (N := N) hn
   rwa [show ((q.1.toNat : Nat) : Int) = q.1 by omega] at this
  have hp := p14 h3
  rw [Bool.not_true, cond_false, e, Option.bind_some, if_pos rfl]
  have := Y4u ho hN q.2.1.length N 0 (List.replicate q.1.toNat (-1)) [] [] (by omega) (by omega) (by simp) rfl (by simp only [List.length_nil]; omega)
  unfold Z23
  rw [this]
  rfl
theorem Y42 {S : Nat -> Nat -> Bool} {N : Nat} (hS : Runs S N) : ∀ n, n <= N -> (B S n).flatten = List.range n
 | 0, _ => by simp [B, sts]
 | n + 1, hn => by
  by_cases h : isSt S n = true
  ·rw [Y53 hS h, List.flatten_append, Y42 hS n (by omega), List.range_succ]; simp
  ·have hn0 : 0 < n := by
    apply Decidable.byContradiction
    intro h0
    have : n = 0 := by omega
    subst this
    apply h
    rw [Y6]; intro k hk; omega
   obtain ⟨A, t, e, h1, h2, h3⟩ := Yt hS (n + 1) (by omega) hn
   have e' : sts S n = A ++ [t] := by rw [Yh, if_neg h, List.append_nil] at e; exact e
   have ih := Y42 hS n (by omega)
   rw [Y54 hS h (by omega) e' (h3 n (by omega) (by omega)), List.range_succ, <- ih]
   unfold B
   rw [e']
   simp only [List.map_append, List.map_cons, List.map_nil, List.flatten_append, List.flatten_cons, List.flatten_nil, List.append_nil, List.append_assoc]
def mx (w : List Int) (m x : Int) : Int := if at_ 0 w x > at_ 0 w m then x else m
def bestB (w b : List Int) : Int := b.foldl (mx w) (at_ 0 b 0)
theorem Y61 {w b : List Int} : ∀ {l : List Int} {m : Int}, m ∈ b -> (∀ x ∈ l, x ∈ b) -> l.foldl (mx w) m ∈ b
 | [], m, hm, _ => hm
 | x :: l, m, hm, h => by
  rw [List.foldl_cons]
  refine Y61 ?_ fun y hy => h y (by simp [hy])
  unfold mx
  split
  ·exact h x (by simp)
  ·exact hm
theorem Y6w {b : List Int} (hb : b ≠ []) : at_ 0 b 0 ∈ b := by
 cases b with
 | nil => exact absurd rfl hb
 | cons x b =>
  rw [show at_ 0 (x :: b) 0 = x from Y2 (j := 0) (by simp)]; simp
theorem Y62 {w b : List Int} (hb : b ≠ []) : bestB w b ∈ b := Y61 (Y6w hb) fun x hx => hx
theorem Y20 : ∀ L : List (List Nat), (L.map toI).flatten = toI L.flatten
 | [] => rfl
 | b :: L => by rw [List.map_cons, List.flatten_cons, List.flatten_cons, Y19, Y20 L]
theorem Y4i {d : Db} (hvb : validDb d = true) : (blocksOf d).flatten = toI (List.range d.2.length) := by
 unfold blocksOf
 rw [if_pos hvb, Y20, Y42 (runs (Y7 hvb)) _ (Nat.le_refl _)]
theorem Y43 (n : Nat) : (toI (List.range n)).Pairwise (· < ·) := by
 unfold toI
 rw [List.pairwise_map]
 exact List.Pairwise.imp (fun h => by omega) List.pairwise_lt_range
def sumN (f : Nat -> Int) : Nat -> Int
 | 0 => 0
 | n + 1 => sumN f n + f n
theorem Y44 (f : Nat -> Int) (m : Nat) : ∀ n, sumN f (m + n) = sumN f m + sumN (fun k => f (m + k)) n
 | 0 => by simp [sumN]
 | n + 1 => by
  have := Y44 f m n
  show sumN f (m + n) + f (m + n) = sumN f m + (sumN (fun k => f (m + k)) n + f (m + n))
  omega
theorem Y2i {f g : Nat -> Int} : ∀ {n : Nat}, (∀ k, k < n -> f k = g k) -> sumN f n = sumN g n
 | 0, _ => rfl
 | n + 1, h => by
  simp only [sumN, Y2i (n := n) fun k hk => h k (by omega), h n (by omega)]
theorem Y45 (f : Nat -> Int) (c : Int) : ∀ n, sumN (fun k => f k * c) n = sumN f n * c
 | 0 => by simp [sumN]
 | n + 1 => by simp only [sumN, Y45 f c n, Int.add_mul]
theorem Y2x (f g : Nat -> Int) {a : Nat} (ha : 0 < a) : ∀ Q, sumN (fun k => f (k % a) * g (k / a)) (a * Q) = sumN f a * sumN g Q
 | 0 => by simp [sumN]
 | Q + 1 => by
  rw [Nat.mul_succ, Y44, Y2x f g ha Q]
  have e : sumN (fun k => f ((a * Q + k) % a) * g ((a * Q + k) / a)) a = sumN f a * g Q := by
   rw [<- Y45]
   refine Y2i fun k hk => ?_
   rw [Nat.mul_add_mod, Nat.mod_eq_of_lt hk, Nat.mul_add_div ha, Nat.div_eq_of_lt hk, Nat.add_zero]
  rw [e]
  simp only [sumN, Int.mul_add]
theorem Y2y (f : Nat -> Int) : ∀ n, sumN f (n + 1) = f 0 + sumN (fun k => f (k + 1)) n
 | 0 => by simp [sumN]
 | n + 1 => by
  have := Y2y f n
  simp only [sumN] at this ⊢
  omega
def pw (w : List Int) : List Int -> Int
 | [] => 1
 | x :: l => at_ 0 w x * pw w l
def sw (w : List Int) : List Int -> Int
 | [] => 0
 | x :: l => at_ 0 w x + sw w l
def tw (w : List Int) : List (List Int) -> Int
 | [] => 1
 | b :: L => sw w b * tw w L
def sizeP : List (List Int) -> Nat
 | [] => 1
 | b :: L => b.length * sizeP L
def nth : List (List Int) -> Nat -> List Int
 | [], _ => []
 | c :: C, k => c.getD (k % c.length) 0 :: nth C (k / c.length)
theorem Y63 (w : List Int) : ∀ c : List Int, sumN (fun r => at_ 0 w (c.getD r 0)) c.length = sw w c
 | [] => rfl
 | x :: c => by
  rw [List.length_cons, Y2y]
  simp only [List.getD_cons_zero, List.getD_cons_succ, sw, Y63 w c]
theorem Y21 (w : List Int) : ∀ C : List (List Int), (∀ c ∈ C, c ≠ []) -> sumN (fun k => pw w (nth C k)) (sizeP C) = tw w C
 | [], _ => by simp [sumN, sizeP, nth, pw, tw]
 | c :: C, h => by
  have hc : 0 < c.length := List.length_pos_iff.2 (h c (by simp))
  have ih := Y21 w C fun x hx => h x (by simp [hx])
  simp only [nth, pw, sizeP, tw]
  rw [Y2x (fun r => at_ 0 w (c.getD r 0)) (fun q => pw w (nth C q)) hc, Y63, ih]
theorem Y2z (w : List Int) : ∀ a b : List Int, pw w (a ++ b) = pw w a * pw w b
 | [], b => by simp [pw]
 | x :: a, b => by simp only [List.cons_append, pw, Y2z w a b, Int.mul_assoc]
theorem Y2j (w : List Int) : ∀ a : List Int, pw w a.reverse = pw w a
 | [] => rfl
 | x :: a => by
  rw [List.reverse_cons, Y2z, Y2j w a]
  simp only [pw, Int.mul_one]
  exact Int.mul_comm _ _
theorem Y30 (w : List Int) : ∀ a b : List (List Int), tw w (a ++ b) = tw w a * tw w b
 | [], b => by simp [tw]
 | x :: a, b => by simp only [List.cons_append, tw, Y30 w a b, Int.mul_assoc]
theorem Y2k (w : List Int) : ∀ a : List (List Int), tw w a.reverse = tw w a
 | [] => rfl
 | x :: a => by
  rw [List.reverse_cons, Y30, Y2k w a]
  simp only [tw, Int.mul_one]
  exact Int.mul_comm _ _
theorem Y1p : ∀ a b : List (List Int), sizeP (a ++ b) = sizeP a * sizeP b
 | [], b => by simp [sizeP]
 | x :: a, b => by simp only [List.cons_append, sizeP, Y1p a b, Nat.mul_assoc]
theorem Y1g : ∀ a : List (List Int), sizeP a.reverse = sizeP a
 | [] => rfl
 | x :: a => by
  rw [List.reverse_cons, Y1p, Y1g a]
  simp only [sizeP, Nat.mul_one]
  exact Nat.mul_comm _ _
def Wts (w l : List Int) : Prop := ∀ x ∈ l, 1 <= at_ 0 w x /\ at_ 0 w x <= 9
theorem Y1b {a b : Int} (ha : 1 <= a) (hb : 1 <= b) : 1 <= a * b := by
 have := Int.mul_le_mul ha hb (by omega) (by omega)
 omega
theorem Y1q {w : List Int} : ∀ {l : List Int}, Wts w l -> 1 <= pw w l
 | [], _ => Int.le_refl 1
 | x :: l, h => Y1b (h x (by simp)).1 (Y1q fun y hy => h y (by simp [hy]))
theorem Y70 {w : List Int} : ∀ {l : List Int}, Wts w l -> pw w l <= ((9 ^ l.length : Nat) : Int)
 | [], _ => by simp [pw]
 | x :: l, h => by
  have h1 := h x (by simp)
  have h2 := Y70 (l := l) fun y hy => h y (by simp [hy])
  have h3 := Y1q (l := l) fun y hy => h y (by simp [hy])
  have := Int.mul_le_mul h1.2 h2 (by omega) (by omega)
  simp only [pw, List.length_cons, Nat.pow_succ]
  rw [Nat.mul_comm (9 ^ l.length) 9, Int.natCast_mul]
  exact this
theorem Y2l {w : List Int} : ∀ {l : List Int}, Wts w l -> (l.length : Int) <= sw w l /\ sw w l <= 9 * (l.length : Int)
 | [], _ => by simp [sw]
 | x :: l, h => by
  have h1 := h x (by simp)
  have h2 := Y2l (l := l) fun y hy => h y (by simp [hy])
  simp only [sw, List.length_cons]
  omega
theorem Y64 : ∀ n : Nat, 9 * n <= 18 ^ n
 | 0 => by decide
 | n + 1 => by
  have := Y64 n
  have h1 : 1 <= 18 ^ n := Nat.one_le_pow _ _ (by decide)
  rw [Nat.pow_succ]
  omega
theorem Y2m {w : List Int} : ∀ {L : List (List Int)}, (∀ b ∈ L, b ≠ []) -> (∀ b ∈ L, Wts w b) -> 1 <= tw w L
 | [], _, _ => Int.le_refl 1
 | b :: L, h0, h => by
  have h1 := Y2l (h b (by simp))
  have : 0 < b.length := List.length_pos_iff.2 (h0 b (by simp))
  exact Y1b (by omega) (Y2m (fun x hx => h0 x (by simp [hx])) fun x hx => h x (by simp [hx]))
theorem Y58 {w : List Int} : ∀ {L : List (List Int)}, (∀ b ∈ L, b ≠ []) -> (∀ b ∈ L, Wts w b) -> tw w L <= ((18 ^ (L.map List.length).sum : Nat) : Int)
 | [], _, _ => by simp [tw]
 | b :: L, h0, h => by
  have h1 := Y2l (h b (by simp))
  have h2 := Y58 (L := L) (fun x hx => h0 x (by simp [hx])) fun x hx => h x (by simp [hx])
  have h3 := Y2m (L := L) (fun x hx => h0 x (by simp [hx])) fun x hx => h x (by simp [hx])
  have h4 := Y64 b.length
  have h5 : sw w b <= ((18 ^ b.length : Nat) : Int) := by omega
  have := Int.mul_le_mul h5 h2 (by omega) (by omega)
  simp only [tw, List.map_cons, List.sum_cons]
  rw [Nat.pow_add, Int.natCast_mul]
  exact this
theorem Y31 : ∀ {L : List (List Int)}, (∀ b ∈ L, b ≠ []) -> 1 <= sizeP L
 | [], _ => Nat.le_refl 1
 | b :: L, h0 => by
  have : 0 < b.length := List.length_pos_iff.2 (h0 b (by simp))
  have h3 := Y31 (L := L) fun x hx => h0 x (by simp [hx])
  exact Nat.mul_pos this h3
theorem Y1c : ∀ {L : List (List Int)}, (∀ b ∈ L, b ≠ []) -> sizeP L <= 2 ^ (L.map List.length).sum
 | [], _ => by simp [sizeP]
 | b :: L, h0 => by
  have h2 := Y1c (L := L) fun x hx => h0 x (by simp [hx])
  simp only [sizeP, List.map_cons, List.sum_cons]
  rw [Nat.pow_add]
  exact Nat.mul_le_mul (Nat.le_of_lt Nat.lt_two_pow_self) h2
theorem Y4v {a b : Int} (ha : 0 <= a) (hb : 1 <= b) : a <= a * b := by
 have := Int.mul_le_mul_of_nonneg_left hb ha
 omega
theorem Y7e {a b : Nat} (hb : 1 <= b) : a <= a * b := by
 have := Nat.mul_le_mul_left a hb
 omega
theorem Y46 {w : List Int} : ∀ {C : List (List Int)} {k : Nat}, (∀ c ∈ C, c ≠ []) -> (∀ c ∈ C, Wts w c) -> pw w (nth C k) <= pw w (C.map (bestB w)) /\ Wts w (nth C k) /\ (nth C k).length = C.length
 | [], k, _, _ => ⟨Int.le_refl 1, fun x hx => by simp [nth] at hx, rfl⟩
 | c :: C, k, h0, h => by
  have hc : 0 < c.length := List.length_pos_iff.2 (h0 c (by simp))
  have hk : k % c.length < c.length := Nat.mod_lt _ hc
  obtain ⟨i1, i2, i3⟩ := Y46 (C := C) (k := k / c.length) (fun x hx => h0 x (by simp [hx])) fun x hx => h x (by simp [hx])
  have hx : c.getD (k % c.length) 0 ∈ c := by rw [Y3 hk]; exact List.getElem_mem hk
  have hw := h c (by simp) _ hx
  have hb := h c (by simp) _ (Y62 (w := w) (h0 c (by simp)))
  have key : ∀ (l : List Int) (m : Int), at_ 0 w m <= at_ 0 w (l.foldl (mx w) m) /\ ∀ x ∈ l, at_ 0 w x <= at_ 0 w (l.foldl (mx w) m) := by
   intro l
   induction l with
   | nil => intro m; exact ⟨Int.le_refl _, by simp⟩
   | cons y l ih =>
    intro m
    obtain ⟨a1, a2⟩ := ih (mx w m y)
    have a3 : at_ 0 w m <= at_ 0 w (mx w m y) /\ at_ 0 w y <= at_ 0 w (mx w m y) := by
     unfold mx
     split <;> omega
    rw [List.foldl_cons]
    refine ⟨by omega, fun x hx => ?_⟩
    rcases List.mem_cons.1 hx with rfl | hx
    ·omega
    ·exact a2 x hx
  have hle : at_ 0 w (c.getD (k % c.length) 0) <= at_ 0 w (bestB w c) := (key c _).2 _ hx
  have hp := Y1q i2
  refine ⟨?_, fun x hx => ?_, by simp [nth, i3]⟩
  ·simp only [nth, pw, List.map_cons]
   exact Int.mul_le_mul hle i1 (by omega) (by omega)
  ·simp only [nth, List.mem_cons] at hx
   rcases hx with rfl | hx
   ·exact hw
   ·exact i2 x hx
theorem Y32 {w l : List Int} (h : Wts w l) (hin : ∀ x ∈ l, 0 <= x /\ x < (w.length : Int)) (hl : l.length <= 14) (hN : 1048576 < N) : Z11 N N w l 1 0 = some (pw w l) := by
 have hT := Y70 h
 have h9 : 9 ^ l.length <= 9 ^ 14 := Nat.pow_le_pow_right (by decide) hl
 have h10 : (9 : Nat) ^ 14 = 22876792454961 := by decide
 have := loop (fun k (s : Int × Nat) => Z11 N k w l s.1 (s.2 : Int)) (fun s => s.2 <= l.length /\ 1 <= s.1 /\ s.1 * pw w (l.drop s.2) = pw w l) (fun s => l.length - s.2) (fun o => o = some (pw w l)) (fun k s hs => by
  obtain ⟨n, j⟩ := s
  obtain ⟨h1, h2, h3⟩ := hs
  simp only at h1 h2 h3 ⊢
  by_cases hj : j < l.length
  ·right
   have e1 : (j : Int) < (l.length : Int) := by omega
   have hm := List.getElem_mem hj
   have i1 := hin _ hm
   have i2 := h _ hm
   have i3 := Y1q (w := w) (l := l.drop (j + 1)) fun x hx => h x (List.mem_of_mem_drop hx)
   rw [List.drop_eq_getElem_cons hj, pw, <- Int.mul_assoc] at h3
   have p1 := Y1b h2 i2.1
   have p2 := Y4v (a := n * at_ 0 w l[j]) (by omega) i3
   have ew : w64 (n * at_ 0 w l[j]) = n * at_ 0 w l[j] := Y5 (by omega) (by omega)
   refine ⟨(n * at_ 0 w l[j], j + 1), ⟨hj, p1, h3⟩, by simp only; omega, ?_⟩
   simp only [Z11, Z31, e1, decide_true, cond_true, Y0 hj, grd_true, Y2 hj, Yc i1.1 i1.2, ew, Y1 (j := j) (by omega)]
  ·left
   have : j = l.length := by omega
   subst this
   rw [List.drop_length, pw, Int.mul_one] at h3
   simp only [Z11, Z31, Int.lt_irrefl, decide_false, cond_false, h3]) N (1, 0) (by simp only; omega) ⟨by simp, by simp, by simp⟩
 exact this
theorem Y33 (w : List Int) : ∀ a b : List Int, sw w (a ++ b) = sw w a + sw w b
 | [], b => by simp [sw]
 | x :: a, b => by simp only [List.cons_append, sw, Y33 w a b]; omega
theorem Y7f {w : List Int} {b : List (List Int)} {c : List Int} (hb : c.length <= 14) (hw : Wts w c) (hin : ∀ x ∈ c, 0 <= x /\ x < (w.length : Int)) (hN : 1048576 < N) (R : List Int -> Int -> List (List Int) -> Int -> Int -> Option Int) (n t j i : Int) :
  Z15 R N N w n 0 b t j i c (c.length : Int) 0 = R w (w64 (n * sw w c)) b t (w64 (j + 1)) := by
 have := loop (fun k (s : Int × Nat) => Z15 R N k w n s.1 b t j i c (c.length : Int) (s.2 : Int)) (fun s => s.2 <= c.length /\ s.1 = sw w (c.take s.2)) (fun s => c.length - s.2) (fun o => o = R w (w64 (n * sw w c)) b t (w64 (j + 1))) (fun k s hs => by
  obtain ⟨s, q⟩ := s
  obtain ⟨h1, h2⟩ := hs
  simp only at h1 h2 ⊢
  by_cases hq : q < c.length
  ·right
   have e1 : (q : Int) < (c.length : Int) := by omega
   have i1 := hin _ (List.getElem_mem hq)
   have i2 := Y2l (w := w) (l := c.take (q + 1)) fun x hx => hw x (List.mem_of_mem_take hx)
   have i3 : (c.take (q + 1)).length <= 14 := by rw [List.length_take]; omega
   have e2 : sw w (c.take (q + 1)) = s + at_ 0 w c[q] := by
    rw [List.take_succ_eq_append_getElem hq, Y33, h2]
    simp [sw]
   have ew : w64 (s + at_ 0 w c[q]) = sw w (c.take (q + 1)) := by rw [<- e2]; exact Y5 (by omega) (by omega)
   refine ⟨(sw w (c.take (q + 1)), q + 1), ⟨hq, rfl⟩, by simp only; omega, ?_⟩
   simp only [Z15, Z3i, grd_true, e1, decide_true, cond_true, Y0 hq, Y2 hq, Yc i1.1 i1.2, ew, Y1 (j := q) (by omega)]
  ·left
   have : q = c.length := by omega
   subst this
   rw [List.take_length] at h2
   simp only [Z15, Z3i, Int.lt_irrefl, decide_false, cond_false, h2]) N (0, 0) (by simp only; omega) ⟨by simp, by simp [sw]⟩
 exact this
theorem Y71 : (18 : Nat) ^ 14 = 374813367582081024 := by decide
theorem Y7g {w : List Int} {b : List (List Int)} (hbs : (b.map List.length).sum <= 14) (hbl : b.length <= 14) (hb : ∀ x ∈ b, x.length <= 14) (h0 : ∀ x ∈ b, x ≠ []) (hw : ∀ x ∈ b, Wts w x) (hin : ∀ r ∈ b, ∀ x ∈ r, 0 <= x /\ x < (w.length : Int)) (hN : 1048576 < N) : Z0x N N w 1 b (b.length : Int) 0 = some (tw w b) := by
 have hT := Y58 h0 hw
 have h18 : 18 ^ (b.map List.length).sum <= 18 ^ 14 := Nat.pow_le_pow_right (by decide) hbs
 rw [Y71] at h18
 have := loop (fun k (s : Int × Nat) => Z0x N k w s.1 b (b.length : Int) (s.2 : Int)) (fun s => s.2 <= b.length /\ 1 <= s.1 /\ s.1 * tw w (b.drop s.2) = tw w b) (fun s => b.length - s.2) (fun o => o = some (tw w b)) (fun k s hs => by
  obtain ⟨n, j⟩ := s
  obtain ⟨h1, h2, h3⟩ := hs
  simp only at h1 h2 h3 ⊢
  by_cases hj : j < b.length
  ·right
   have e1 : (j : Int) < (b.length : Int) := by omega
   have hm := List.getElem_mem hj
   have i2 := Y2l (hw _ hm)
   have i4 : 0 < (b[j]).length := List.length_pos_iff.2 (h0 _ hm)
   have i3 := Y2m (w := w) (L := b.drop (j + 1)) (fun x hx => h0 x (List.mem_of_mem_drop hx)) fun x hx => hw x (List.mem_of_mem_drop hx)
   rw [List.drop_eq_getElem_cons hj, tw, <- Int.mul_assoc] at h3
   have p1 := Y1b (b := sw w b[j]) h2 (by omega)
   have p2 := Y4v (a := n * sw w b[j]) (by omega) i3
   have ew : w64 (n * sw w b[j]) = n * sw w b[j] := Y5 (by omega) (by omega)
   refine ⟨(n * sw w b[j], j + 1), ⟨hj, p1, h3⟩, by simp only; omega, ?_⟩
   simp only [Z0x, Z3j, e1, decide_true, cond_true, Y0 hj, grd_true, Y2 hj]
   rw [Y7f (hb _ hm) (hw _ hm) (hin _ hm) hN, ew, Y1 (by omega)]
  ·left
   have : j = b.length := by omega
   subst this
   rw [List.drop_length, tw, Int.mul_one] at h3
   simp only [Z0x, Z3j, Int.lt_irrefl, decide_false, cond_false, h3]) N (1, 0) (by simp only; omega) ⟨by simp, by simp, by simp⟩
 exact this
theorem Y7l {b : List (List Int)} (hbs : (b.map List.length).sum <= 14) (hbl : b.length <= 14) (h0 : ∀ x ∈ b, x ≠ []) (hN : 1048576 < N) : Z1x N N 1 (toI (b.map List.length)) 0 = some (sizeP b : Int) := by
 have hT := Y1c h0
 have h2p : 2 ^ (b.map List.length).sum <= 2 ^ 14 := Nat.pow_le_pow_right (by decide) hbs
 have hlen : (toI (b.map List.length)).length = b.length := by simp [toI]
 have := loop (fun k (s : Nat × Nat) => Z1x N k (s.1 : Int) (toI (b.map List.length)) (s.2 : Int)) (fun s => s.2 <= b.length /\ s.1 * sizeP (b.drop s.2) = sizeP b) (fun s => b.length - s.2) (fun o => o = some (sizeP b : Int)) (fun k s hs => by
  obtain ⟨n, j⟩ := s
  obtain ⟨h1, h3⟩ := hs
  simp only at h1 h3 ⊢
  by_cases hj : j < b.length
  ·right
   have e1 : (j : Int) < ((toI (b.map List.length)).length : Int) := by omega
   have i3 := Y31 (L := b.drop (j + 1)) fun x hx => h0 x (List.mem_of_mem_drop hx)
   rw [List.drop_eq_getElem_cons hj, sizeP, <- Nat.mul_assoc] at h3
   have p2 := Y7e (a := n * (b[j]).length) i3
   have hj2 : j < (toI (b.map List.length)).length := by omega
   have eb : (toI (b.map List.length))[j] = ((b[j]).length : Int) := by simp [toI]
   have ew : w64 ((n : Int) * ((b[j]).length : Int)) = ((n * (b[j]).length : Nat) : Int) := by
    rw [<- Int.natCast_mul]
    exact Y5 (by omega) (by omega)
   refine ⟨(n * (b[j]).length, j + 1), ⟨hj, h3⟩, by simp only; omega, ?_⟩
   simp only [Z1x, Z4g, e1, decide_true, cond_true, Y0 hj2, grd_true, Y2 hj2, eb, ew, Y1 (j := j) (by omega)]
  ·left
   have : j = b.length := by omega
   subst this
   rw [List.drop_length, sizeP, Nat.mul_one] at h3
   simp only [Z1x, Z4g, hlen, Int.lt_irrefl, decide_false, cond_false, h3]) N (1, 0) (by simp only; omega) ⟨by simp, by simp⟩
 exact this
theorem Y65 {l : List Int} (hl : l.length <= 1000) (hs : l.Pairwise (· > ·)) (hN : 1048576 < N) : Z1i N l = some l.reverse := by
 unfold Z1i Z7w
 have := loop (fun k (s : Nat) => Z0r N k l (l.take s).reverse (s : Int)) (fun s => s <= l.length) (fun s => l.length - s) (fun o => o = some l.reverse) (fun k s hs' => by
  by_cases hj : s < l.length
  ·right
   refine ⟨s + 1, hj, by omega, ?_⟩
   have h1 : (s : Int) < (l.length : Int) := by omega
   have hlen : ((l.take s).reverse).length = s := by rw [List.length_reverse, List.length_take]; omega
   have e0 : (l.take (s + 1)).reverse = l[s] :: (l.take s).reverse := by rw [List.take_succ_eq_append_getElem hj]; simp
   have hbig : ∀ q (hq : q < ((l.take s).reverse).length), ((l.take s).reverse)[q] > l[s] := by
    intro q hq
    have hm : ((l.take s).reverse)[q] ∈ l.take s := List.mem_reverse.1 (List.getElem_mem hq)
    obtain ⟨i, hi, he⟩ := List.mem_iff_getElem.1 hm
    rw [<- he, List.getElem_take]
    have hi2 : i < s := by rw [List.length_take] at hi; omega
    exact List.pairwise_iff_getElem.1 hs i s (by omega) hj hi2
   simp only [Z0r, Z4l, h1, decide_true, cond_true, hlen]
   rw [e0]
   generalize (l.take s).reverse = out at *
   have := loop (fun q (t : Nat) => Z1w (Z0r N k) N q l out (s : Int) (t : Int)) (fun t => t <= out.length) (fun t => t) (fun o => o = Z0r N k l (l[s] :: out) ((s + 1 : Nat) : Int)) (fun q t ht => by
    by_cases h0 : 0 < t
    ·right
     refine ⟨t - 1, by omega, by omega, ?_⟩
     have h2 : (t : Int) > 0 := by omega
     have h3 : t - 1 < out.length := by omega
     simp only [Z1w, Z3b, h2, decide_true, cond_true, Ya h0 (by omega), Y0 h3, Y0 hj, grd_true, Y2 h3, Y2 hj, hbig (t - 1) h3]
    ·left
     have : t = 0 := by omega
     subst this
     have so : subOk 0 0 out.length = true := Ye (by omega) (by omega) (by omega)
     have so2 : subOk 0 (out.length : Int) out.length = true := Ye (by omega) (by omega) (by omega)
     have a1 : appOk ([] : List Int) [] 8 = true := rfl
     have a2 : appOk ([] : List Int) [l[s]] 8 = true := Y4 (by omega) (by simp)
     have a3 : appOk [l[s]] out 8 = true := Y4 (by omega) (by simp only [List.length_singleton]; omega)
     have h2 : ¬ (0 : Int) > 0 := by omega
     simp only [Z1w, Z3b, Int.cast_ofNat_Int, h2, decide_false, cond_false, Int.toNat_zero, List.take_zero, List.drop_zero, so, so2, Y0 hj, Y2 hj, grd_true, a1, a2, a3, List.nil_append, List.singleton_append, Y1 (j := s) (by omega)]) N s (by omega) (by omega)
   exact this
  ·left
   have : s = l.length := by omega
   subst this
   simp [Z0r, Z4l]) N 0 (by omega) (by omega)
 exact this
structure Good1 (d : Db) (w : List Int) : Prop where
 vb : validDb d = true
 len : w.length = d.2.length
 few : d.2.length <= 14
 wts : ∀ x, 0 <= x -> x < (d.2.length : Int) -> 1 <= at_ 0 w x /\ at_ 0 w x <= 9
theorem Y59 {d : Db} {w : List Int} (h : validWeights d w = true) : Good1 d w := by
 unfold validWeights at h
 simp only [Bool.and_eq_true, decide_eq_true_eq] at h
 obtain ⟨h1, h2, h3⟩ := h
 refine ⟨h1, h2, (Y7 h1).few, fun x h0 hx => ?_⟩
 unfold weightsIn at h3
 rw [Y3j h0 (by omega)]
 exact of_decide_eq_true (List.all_eq_true.1 h3 _ (List.getElem_mem _))
structure Blks (n : Nat) (w : List Int) (L : List (List Int)) : Prop where
 ne : ∀ b ∈ L, b ≠ []
 sum : (L.map List.length).sum <= 14
 len : L.length <= 14
 each : ∀ b ∈ L, b.length <= 14
 ins : ∀ b ∈ L, ∀ x ∈ b, 0 <= x /\ x < (n : Int)
 wts : ∀ b ∈ L, Wts w b
 flat : L.flatten.Pairwise (· < ·)
theorem Good1.blks {d : Db} {w : List Int} (h : Good1 d w) : Blks d.2.length w (blocksOf d) := by
 obtain ⟨s1, s2, s3, s4⟩ := Yn h.vb
 have hf := h.few
 have hin := Y55 h.vb
 refine ⟨fun b hb => (Y2w h.vb b hb).1, ?_, by omega, fun b hb => (Y2w h.vb b hb).2, hin, fun b hb x hx => ?_, ?_⟩
 ·show (sizes d).sum <= 14
  omega
 ·have := hin b hb x hx
  exact h.wts x this.1 this.2
 ·rw [Y4i h.vb]; exact Y43 _
theorem Y1h {d : Db} {w : List Int} (h : SmallDb d) (hg : Good1 d w) (hN : 1048576 < N) : Z1h N d = some (sizeP (blocksOf d) : Int) := by
 have hb := hg.blks
 unfold Z1h Z7q
 rw [Yr h hN, Option.bind_some, hg.vb, Bool.not_true, cond_false, Y5u h hN, Option.bind_some]
 exact Y7l hb.sum hb.len hb.ne hN
theorem Y4w {N : Nat} {L : List (List Int)} (h0 : ∀ b ∈ L, b ≠ []) : ∀ (m f k : Nat) (out : List Int), m < f -> m <= L.length -> out.length + m <= 100 -> k <= 1000000 -> Z3y N f (k : Int) L out ((m : Int) - 1) = (Z1i N (out ++ nth (L.take m).reverse k)).bind fun r => some (r, true)
 | _, 0, _, _, hf, _, _, _ => by omega
 | 0, f + 1, k, out, hf, hm, ho, hk => by
  have h1 : ¬ ((0 : Nat) : Int) - 1 >= 0 := by omega
  simp only [Z3y, Z64, decide_eq_false h1, cond_false, List.take_zero, List.reverse_nil, nth, List.append_nil]
 | m + 1, f + 1, k, out, hf, hm, ho, hk => by
  have e1 : ((m + 1 : Nat) : Int) - 1 = (m : Int) := by omega
  have hj : m < L.length := by omega
  have hc : 0 < (L[m]).length := List.length_pos_iff.2 (h0 _ (List.getElem_mem hj))
  have hz : ((L[m]).length : Int) ≠ 0 := by omega
  have hq : k % (L[m]).length < (L[m]).length := Nat.mod_lt _ hc
  have em : (k : Int).tmod ((L[m]).length : Int) = ((k % (L[m]).length : Nat) : Int) := rfl
  have ed : (k : Int).tdiv ((L[m]).length : Int) = ((k / (L[m]).length : Nat) : Int) := rfl
  have hd : k / (L[m]).length <= k := Nat.div_le_self _ _
  have hd0 : (0 : Int) <= ((k / (L[m]).length : Nat) : Int) := Int.natCast_nonneg _
  have hd1 : ((k / (L[m]).length : Nat) : Int) <= (k : Int) := Int.ofNat_le.2 hd
  have h1 : (m : Int) >= 0 := by omega
  have e2 : (L.take (m + 1)).reverse = L[m] :: (L.take m).reverse := by rw [List.take_succ_eq_append_getElem hj]; simp
  simp only [Z3y, Z64, e1, decide_eq_true h1, cond_true, Y0 hj, grd_true, Y2 hj, Yp hz, em, ed, Y0 hq, Y2 hq]
  rw [Y4 (by omega) (by simp only [List.length_singleton]; omega), grd_true, Y5 (x := ((k / (L[m]).length : Nat) : Int)) (by omega) (by omega), Y5 (x := (m : Int) - 1) (by omega) (by omega), Y4w h0 m f _ _ (by omega) (by omega) (by simp; omega) (by omega), e2]
  simp only [nth, Y3 hq, List.append_assoc, List.singleton_append]
theorem Y2t : ∀ {C : List (List Int)} {k : Nat}, (∀ c ∈ C, c ≠ []) -> ∀ y ∈ nth C k, ∃ c ∈ C, y ∈ c
 | [], k, _, y, hy => by simp [nth] at hy
 | c :: C, k, h0, y, hy => by
  have hc : 0 < c.length := List.length_pos_iff.2 (h0 c (by simp))
  have hk : k % c.length < c.length := Nat.mod_lt _ hc
  simp only [nth, List.mem_cons] at hy
  rcases hy with rfl | hy
  ·rw [Y3 hk]; exact ⟨c, by simp, List.getElem_mem hk⟩
  ·obtain ⟨c', h1, h2⟩ := Y2t (C := C) (fun x hx => h0 x (by simp [hx])) y hy
   exact ⟨c', by simp [h1], h2⟩
theorem Y1d : ∀ {C : List (List Int)} {k : Nat}, (∀ c ∈ C, c ≠ []) -> C.Pairwise (fun b c => ∀ x ∈ b, ∀ y ∈ c, x > y) -> (nth C k).Pairwise (· > ·)
 | [], k, _, _ => by simp [nth]
 | c :: C, k, h0, hp => by
  have hc : 0 < c.length := List.length_pos_iff.2 (h0 c (by simp))
  have hk : k % c.length < c.length := Nat.mod_lt _ hc
  have h1 : ∀ x ∈ C, x ≠ [] := fun x hx => h0 x (by simp [hx])
  rw [List.pairwise_cons] at hp
  simp only [nth, List.pairwise_cons]
  refine ⟨fun y hy => ?_, Y1d h1 hp.2⟩
  obtain ⟨c', h2, h3⟩ := Y2t h1 y hy
  rw [Y3 hk]
  exact hp.1 c' h2 _ (List.getElem_mem hk) y h3
theorem Blks.rev {n : Nat} {w : List Int} {L : List (List Int)} (h : Blks n w L) : (∀ c ∈ L.reverse, c ≠ []) /\ L.reverse.Pairwise (fun b c => ∀ x ∈ b, ∀ y ∈ c, x > y) := by
 refine ⟨fun c hc => h.ne c (List.mem_reverse.1 hc), ?_⟩
 rw [List.pairwise_reverse]
 refine ((List.pairwise_flatten.1 h.flat).2).imp fun h1 x hx y hy => ?_
 exact h1 y hy x hx
def repN (L : List (List Int)) (k : Nat) : List Int := (nth L.reverse k).reverse
theorem nthV {d : Db} {w : List Int} (h : SmallDb d) (hg : Good1 d w) (hN : 1048576 < N) {k : Nat} (hk : k < sizeP (blocksOf d)) : Z47 N d k = some (repN (blocksOf d) k, true) := by
 have hb := hg.blks
 have hs := Y1c hb.ne
 have h2p : 2 ^ ((blocksOf d).map List.length).sum <= 2 ^ 14 := Nat.pow_le_pow_right (by decide) hb.sum
 unfold Z47 Z8i
 rw [Y1h h hg hN, Option.bind_some, Y5 (by omega) (by omega), l1In, Option.bind_some, decide_eq_true (by omega), Bool.not_true, cond_false, Yv h hN, Option.bind_some]
 have hl := hb.len
 have := Y4w (N := N) hb.ne (blocksOf d).length N k [] (by omega) (Nat.le_refl _) (by simp; omega) (by omega)
 rw [Y5 (by omega) (by omega), this, List.take_length, List.nil_append]
 have hlen := (Y46 (w := w) (k := k) hb.rev.1 fun c hc => hb.wts c (List.mem_reverse.1 hc)).2.2
 rw [Y65 (by rw [hlen, List.length_reverse]; omega) (Y1d hb.rev.1 hb.rev.2) hN]
 rfl
theorem Y22 {n : Nat} {l : List Int} (hs : l.Pairwise (· < ·)) (hin : ∀ x ∈ l, 0 <= x /\ x < (n : Int)) : validSet n l = true := by
 unfold validSet
 rw [decide_eq_true_eq]
 intro j hj
 have h1 := hin _ (List.getElem_mem hj)
 rw [Bool.and_eq_true, decide_eq_true_eq, Y3 hj]
 refine ⟨by omega, ?_⟩
 by_cases h0 : j = 0
 ·simp [h0]
 ·have h4 : j - 1 < l.length := by omega
  rw [Y3 h4, decide_eq_true (List.pairwise_iff_getElem.1 hs (j - 1) j h4 hj (by omega)), Bool.or_true]
theorem Y66 {d : Db} {w : List Int} (h : SmallDb d) (hv : validWeights d w = true) (hN : 1048576 < N) : Z1e N d w = some (tw w (blocksOf d)) := by
 have hg := Y59 hv
 have hb := hg.blks
 have hlen := hg.len
 have hf := hg.few
 unfold Z1e Z6h
 rw [Y11 h (by omega) hN, Option.bind_some, hv, Bool.not_true, cond_false, Y2r h hg.vb hN, Option.bind_some]
 exact Y7g hb.sum hb.len hb.each hb.ne hb.wts (fun r hr x hx => by rw [hlen]; exact hb.ins r hr x hx) hN
def subDb (d : Db) (l : List Int) : Db := (d.1, l.map fun x => factAt d x.toNat)
theorem Y7h {d : Db} {l : List Int} (h : SmallDb d) (hvb : validDb d = true) (hs : l.Pairwise (· < ·)) (hin : ∀ x ∈ l, 0 <= x /\ x < (d.2.length : Int)) (hl : l.length <= 14) (hN : 1048576 < N) : Z36 N d l = some (subDb d l, true) := by
 have hr := h.rels
 unfold Z36 Z83
 rw [Yr h hN, Option.bind_some, hvb, Bool.not_true, cond_false, Y4r h (by omega) hN, Option.bind_some, Y22 hs hin, Bool.not_true, cond_false, Y4 (by omega) (by simp only [List.length_nil]; omega), grd_true]
 have := loop (fun k (s : Nat) => Z43 N k l d.1 d.2 [] [] d.1 ((l.take s).map fun x => factAt d x.toNat) (s : Int)) (fun s => s <= l.length) (fun s => l.length - s) (fun o => o = some (subDb d l, true)) (fun k j hj' => by
  simp only [Z43, Z74]
  by_cases hj : j < l.length
  ·right
   refine ⟨j + 1, hj, by omega, ?_⟩
   have h1 : (j : Int) < (l.length : Int) := by omega
   have h2 := hin _ (List.getElem_mem hj)
   have h3 : (l[j]).toNat < d.2.length := by omega
   have e : at_ (0, []) d.2 l[j] = factAt d (l[j]).toNat := by
    have := Yl h3
    rwa [show (((l[j]).toNat : Nat) : Int) = l[j] by omega] at this
   have h4 := Yf h h3
   simp only [h1, decide_true, cond_true, Y0 hj, grd_true, Y2 hj, Yc h2.1 h2.2, e]
   rw [Y4 (by omega) (by simp only [List.length_nil]; omega), grd_true, Y4 (by omega) (by simp; omega), grd_true, Y1 (by omega), List.take_succ_eq_append_getElem hj, List.map_append]
   rfl
  ·left
   have h1 : ¬ (j : Int) < (l.length : Int) := by omega
   simp only [h1, decide_false, cond_false]
   rw [List.take_of_length_le (by omega)]
   rfl) N 0 (by omega) (by omega)
 exact this
theorem Yw {d : Db} {l : List Int} {j : Nat} (hj : j < l.length) : factAt (subDb d l) j = factAt d (l[j]).toNat := by
 show ((l.map fun x => factAt d x.toNat).getD j (0, [])) = _
 rw [Y3 (by simp; exact hj), List.getElem_map]
theorem Y67 {d : Db} {l : List Int} (hvb : validDb d = true) (hs : l.Pairwise (· < ·)) (hin : ∀ x ∈ l, 0 <= x /\ x < (d.2.length : Int)) (hl : l.length <= 14) : validDb (subDb d l) = true := by
 have hv := Y7 hvb
 have hlen : (subDb d l).2.length = l.length := by simp [subDb]
 unfold validDb
 rw [Bool.and_eq_true, Bool.and_eq_true, decide_eq_true_eq, decide_eq_true_eq]
 refine ⟨hv.rels, by omega, fun j hj => ?_⟩
 have hj2 : j < l.length := by omega
 have h1 := hin _ (List.getElem_mem hj2)
 rw [Yw hj2, Bool.and_eq_true]
 refine ⟨hv.fact _ (by omega), ?_⟩
 by_cases h0 : j = 0
 ·simp [h0]
 ·have h4 : j - 1 < l.length := by omega
  have h5 := List.pairwise_iff_getElem.1 hs (j - 1) j h4 hj2 (by omega)
  have h6 := hin _ (List.getElem_mem h4)
  rw [Yw h4, decide_eq_true (hv.lt _ _ (by omega) (by omega)), Bool.or_true]
theorem Y68 {d : Db} {l : List Int} (h : SmallDb d) (hin : ∀ x ∈ l, 0 <= x /\ x < (d.2.length : Int)) (hl : l.length <= 14) : SmallDb (subDb d l) := ⟨h.rels, by simp [subDb]; omega, fun f hf => by
  obtain ⟨x, hx, rfl⟩ := List.mem_map.1 hf
  have := hin x hx
  exact Yf h (by omega)⟩
def putIn (l : List Int) (x : Int) : Nat -> List Int
 | 0 => x :: l
 | k + 1 => if l.getD k 0 > x then putIn l x k else l.take (k + 1) ++ x :: l.drop (k + 1)
theorem Yo (l : List Int) (x : Int) : ∀ k, k <= l.length -> ∃ j, j <= k /\ putIn l x k = l.take j ++ x :: l.drop j /\ (∀ i (hi : i < l.length), j <= i -> i < k -> l[i] > x) /\ (0 < j -> ∃ (hj : j - 1 < l.length), ¬ l[j - 1] > x)
 | 0, _ => ⟨0, Nat.le_refl _, by simp [putIn], fun i hi h1 h2 => by omega, fun h => by omega⟩
 | k + 1, hk => by
  have hk' : k < l.length := by omega
  simp only [putIn, Y3 hk']
  by_cases h : l[k] > x
  ·rw [if_pos h]
   obtain ⟨j, h1, h2, h3, h4⟩ := Yo l x k (by omega)
   refine ⟨j, by omega, h2, fun i hi g1 g2 => ?_, h4⟩
   by_cases e : i = k
   ·subst e; exact h
   ·exact h3 i hi g1 (by omega)
  ·rw [if_neg h]
   exact ⟨k + 1, Nat.le_refl _, rfl, fun i hi g1 g2 => by omega, fun _ => ⟨by omega, by simpa using h⟩⟩
theorem Y34 {l : List Int} {x y : Int} : y ∈ putIn l x l.length ↔ y = x \/ y ∈ l := by
 obtain ⟨j, _, e, _, _⟩ := Yo l x l.length (Nat.le_refl _)
 rw [e, List.mem_append, List.mem_cons]
 have hl : y ∈ l ↔ y ∈ l.take j \/ y ∈ l.drop j := by
  conv => lhs; rw [<- List.take_append_drop j l]
  rw [List.mem_append]
 rw [hl]
 constructor
 ·rintro (h | h | h)
  ·exact .inr (.inl h)
  ·exact .inl h
  ·exact .inr (.inr h)
 ·rintro (h | h | h)
  ·exact .inr (.inl h)
  ·exact .inl h
  ·exact .inr (.inr h)
theorem Y35 {l : List Int} {x : Int} : (putIn l x l.length).length = l.length + 1 := by
 obtain ⟨j, hj, e, _, _⟩ := Yo l x l.length (Nat.le_refl _)
 rw [e]
 simp only [List.length_append, List.length_take, List.length_cons, List.length_drop]
 omega
def sortI : List Int -> List Int -> List Int
 | [], out => out
 | x :: l, out => sortI l (putIn out x out.length)
theorem Y36 {N k : Nat} {l out : List Int} {s : Nat} (hs : s < l.length) (hl : l.length <= 1000) (ho : out.length <= 1000) : ∀ (f t : Nat), t < f -> t <= out.length -> Z1w (Z0r N k) N f l out (s : Int) (t : Int) = Z0r N k l (putIn out l[s] t) ((s + 1 : Nat) : Int)
 | 0, t, hf, _ => by omega
 | f + 1, 0, hf, ht => by
  have h2 : ¬ ((0 : Nat) : Int) > 0 := by omega
  simp only [Z1w, Z3b, h2, decide_false, cond_false, Int.toNat_natCast, Y0 hs, Y2 hs, grd_true]
  rw [show subOk 0 ((0 : Nat) : Int) out.length = true by simp [subOk], grd_true, Y4 (by omega) (by simp), grd_true, Y4 (by omega) (by simp), grd_true, show subOk ((0 : Nat) : Int) (out.length : Int) out.length = true by simp [subOk], grd_true, Y4 (by omega) (by simp; omega), grd_true, Y1 (by omega)]
  simp [putIn]
 | f + 1, t + 1, hf, ht => by
  have h2 : ((t + 1 : Nat) : Int) > 0 := by omega
  have h3 : t < out.length := ht
  have e1 : w64 (((t + 1 : Nat) : Int) - 1) = (t : Int) := by rw [Y5 (by omega) (by omega)]; omega
  simp only [Z1w, Z3b, h2, decide_true, cond_true, e1, Y0 h3, Y2 h3, Y0 hs, Y2 hs, grd_true, putIn, Y3 h3, Int.toNat_natCast]
  by_cases h : out[t] > l[s]
  ·rw [decide_eq_true h, cond_true, if_pos h]
   exact Y36 hs hl ho f t (by omega) (by omega)
  ·rw [decide_eq_false h, cond_false, if_neg h]
   rw [show subOk 0 ((t + 1 : Nat) : Int) out.length = true by simp [subOk]; omega, grd_true, Y4 (by omega) (by simp; omega), grd_true, Y4 (by omega) (by simp; omega), grd_true, show subOk ((t + 1 : Nat) : Int) (out.length : Int) out.length = true by simp [subOk]; omega, grd_true, Y4 (by omega) (by simp; omega), grd_true, Y1 (by omega)]
   simp
theorem Y37 : ∀ (l out : List Int), (sortI l out).length = l.length + out.length
 | [], out => by simp [sortI]
 | x :: l, out => by rw [sortI, Y37 l, Y35]; simp; omega
theorem Ys {y : Int} : ∀ (l out : List Int), y ∈ sortI l out ↔ y ∈ l \/ y ∈ out
 | [], out => by simp [sortI]
 | x :: l, out => by rw [sortI, Ys l, Y34, List.mem_cons, or_left_comm, or_assoc]
theorem Y38 {N : Nat} {l : List Int} (hl : l.length <= 900) (hN : 1048576 < N) : ∀ (f s : Nat) (out : List Int), l.length - s < f -> s <= l.length -> out.length = s -> Z0r N f l out (s : Int) = some (sortI (l.drop s) out)
 | 0, s, out, hf, _, _ => by omega
 | f + 1, s, out, hf, hs, ho => by
  simp only [Z0r, Z4l]
  by_cases h : s < l.length
  ·have h1 : (s : Int) < (l.length : Int) := by omega
   rw [decide_eq_true h1, cond_true, Y36 h (by omega) (by omega) N out.length (by omega) (Nat.le_refl _), Y38 hl hN f (s + 1) _ (by omega) h (by rw [Y35, ho]), List.drop_eq_getElem_cons h, sortI]
  ·have h1 : ¬ (s : Int) < (l.length : Int) := by omega
   rw [decide_eq_false h1, cond_false, List.drop_eq_nil_of_le (by omega), sortI]
theorem Y6x {l : List Int} (hl : l.length <= 900) (hN : 1048576 < N) : Z1i N l = some (sortI l []) := by
 have := Y38 hl hN N 0 [] (by omega) (by omega) rfl
 simpa [Z1i, Z7w] using this
theorem Y47 {l : List Int} {x : Int} (hs : l.Pairwise (· < ·)) (hx : x ∉ l) : (putIn l x l.length).Pairwise (· < ·) := by
 obtain ⟨j, hj, e, h3, h4⟩ := Yo l x l.length (Nat.le_refl _)
 rw [e]
 have hsplit : (l.take j ++ l.drop j).Pairwise (· < ·) := by rwa [List.take_append_drop]
 rw [List.pairwise_append] at hsplit
 rw [List.pairwise_append, List.pairwise_cons]
 have hlt : ∀ a ∈ l.take j, a < x := by
  intro a ha
  obtain ⟨i, hi, rfl⟩ := List.mem_iff_getElem.1 ha
  have hi' : i < j := by simp at hi; omega
  obtain ⟨hj', hle⟩ := h4 (by omega)
  rw [List.getElem_take]
  have hne : l[j - 1] ≠ x := fun e => hx (e ▸ List.getElem_mem hj')
  have hi2 : i < l.length := by omega
  have : l[i] <= l[j - 1] := by
   by_cases h : i = j - 1
   ·subst h; exact Int.le_refl _
   ·have := List.pairwise_iff_getElem.1 hs i (j - 1) hi2 hj' (by omega)
    omega
  omega
 have hgt : ∀ a ∈ l.drop j, x < a := by
  intro a ha
  obtain ⟨i, hi, rfl⟩ := List.mem_iff_getElem.1 ha
  rw [List.getElem_drop]
  have hi2 : j + i < l.length := by simp at hi; omega
  exact h3 (j + i) hi2 (by omega) hi2
 refine ⟨hsplit.1, ⟨hgt, hsplit.2.1⟩, fun a ha b hb => ?_⟩
 rcases List.mem_cons.1 hb with rfl | hb
 ·exact hlt a ha
 ·exact hsplit.2.2 a ha b hb
theorem Yz : ∀ (l out : List Int), l.Nodup -> (∀ x ∈ l, x ∉ out) -> out.Pairwise (· < ·) -> (sortI l out).Pairwise (· < ·)
 | [], out, _, _, hs => hs
 | x :: l, out, hn, hd, hs => by
  rw [List.nodup_cons] at hn
  refine Yz l _ hn.2 (fun y hy h => ?_) (Y47 hs (hd x List.mem_cons_self))
  rcases Y34.1 h with rfl | h
  ·exact hn.1 hy
  ·exact hd y (List.mem_cons_of_mem _ hy) h
def chain (d : Db) (as : List Atm) : Nat -> List Int -> List Int -> Option (List Int)
 | _, x, [] => some x
 | k, x, g :: gs => match meetA (atomAt as k) (factAt d g.toNat) x with
  | some y => chain d as (k + 1) y gs
  | none => none
theorem Y2u {d : Db} {as : List Atm} {e : List Int × List Int} : ∀ (m k : Nat) (x fs : List Int), e ∈ emb d as m k x fs ↔ ∃ gs : List Int, gs.length = m /\ (∀ g ∈ gs, 0 <= g /\ g < (d.2.length : Int)) /\ chain d as k x gs = some e.1 /\ e.2 = fs ++ gs
 | 0, k, x, fs => by
  simp only [emb, List.mem_singleton]
  constructor
  ·rintro rfl
   exact ⟨[], rfl, by simp, rfl, by simp⟩
  ·rintro ⟨gs, h1, -, h3, h4⟩
   have : gs = [] := List.length_eq_zero_iff.1 h1
   subst this
   simp only [chain, Option.some.injEq] at h3
   obtain ⟨a, b⟩ := e
   simp only [List.append_nil] at h4
   simp only at h3
   rw [h3, h4]
 | m + 1, k, x, fs => by
  simp only [emb, List.mem_flatMap, List.mem_range]
  constructor
  ·rintro ⟨i, hi, he⟩
   split at he
   ·rename_i y hy
    obtain ⟨gs, h1, h2, h3, h4⟩ := (Y2u m (k + 1) y (fs ++ [(i : Int)])).1 he
    refine ⟨(i : Int) :: gs, by simp [h1], fun g hg => ?_, ?_, by rw [h4, List.append_assoc]; rfl⟩
    ·rcases List.mem_cons.1 hg with rfl | hg
     ·omega
     ·exact h2 g hg
    ·simp only [chain, Int.toNat_natCast, hy]
     exact h3
   ·cases he
  ·rintro ⟨gs, h1, h2, h3, h4⟩
   match gs with
   | [] => simp at h1
   | g :: gs =>
    have hg := h2 g List.mem_cons_self
    refine ⟨g.toNat, by omega, ?_⟩
    simp only [chain] at h3
    split at h3
    ·rename_i y hy
     try simp only [hy]
     refine (Y2u m (k + 1) y _).2 ⟨gs, by simpa using h1, fun g' hg' => h2 g' (List.mem_cons_of_mem _ hg'), h3, ?_⟩
     rw [h4, List.append_assoc, show ((g.toNat : Nat) : Int) = g by omega]
     rfl
    ·cases h3
theorem Y1r {d : Db} {as : List Atm} : ∀ (gs : List Int) (k : Nat) (x y : List Int), chain d as k x gs = some y -> ∀ j (h : j < gs.length), (factAt d (gs[j]).toNat).1 = (atomAt as (k + j)).1
 | [], k, x, y, _, j, h => by simp at h
 | g :: gs, k, x, y, hc, j, h => by
  simp only [chain] at hc
  split at hc
  ·rename_i z hz
   cases j with
   | zero =>
    unfold meetA at hz
    split at hz
    ·rename_i e; exact e
    ·cases hz
   | succ j =>
    have := Y1r gs (k + 1) z y hc j (by simpa using h)
    rw [show k + (j + 1) = k + 1 + j by omega]
    exact this
  ·cases hc
theorem Y4j {d : Db} {q : Qry} (h : queryFor d q = true) {i j : Nat} (hi : i < j) (hj : j < q.2.1.length) : (atomAt q.2.1 i).1 ≠ (atomAt q.2.1 j).1 := by
 unfold queryFor validQ at h
 simp only [Bool.and_eq_true, decide_eq_true_eq] at h
 obtain ⟨_, _, _, _, hok, _, _⟩ := h
 have h1 : atomOk d.1 q.1.toNat q.2.1 j = true := of_decide_eq_true hok j hj
 unfold atomOk at h1
 simp only [Bool.and_eq_true, decide_eq_true_eq] at h1
 have h2 := h1.2.2.1
 unfold newRel at h2
 rw [Bool.not_eq_true', List.any_eq_false] at h2
 intro e
 refine h2 (atomAt q.2.1 i) ?_ (decide_eq_true e)
 have hi' : i < q.2.1.length := by omega
 unfold atomAt
 rw [Y3 hi']
 exact List.mem_iff_getElem.2 ⟨i, by simp; omega, by rw [List.getElem_take]⟩
structure EmbOk (d : Db) (e : List Int × List Int) : Prop where
 few : e.2.length <= 3
 ins : ∀ x ∈ e.2, 0 <= x /\ x < (d.2.length : Int)
 apart : ∀ i j (hi : i < j) (hj : j < e.2.length), (factAt d (e.2[i]'(by omega)).toNat).1 ≠ (factAt d (e.2[j]).toNat).1
theorem Y1s {d : Db} {q : Qry} {e : List Int × List Int} (he : e ∈ embs d q) : queryFor d q = true /\ EmbOk d e := by
 unfold embs at he
 split at he
 ·rename_i h
  obtain ⟨gs, h1, h2, h3, h4⟩ := (Y2u _ _ _ _).1 he
  rw [List.nil_append] at h4
  have h5 := (qOk h).as3
  obtain ⟨a, b⟩ := e
  simp only at h4 h3
  subst h4
  refine ⟨h, ⟨by simp only; omega, h2, fun i j hi hj => ?_⟩⟩
  simp only at hj
  have r1 := Y1r b 0 _ _ h3 i (by omega)
  have r2 := Y1r b 0 _ _ h3 j hj
  rw [Nat.zero_add] at r1 r2
  simp only
  rw [r1, r2]
  exact Y4j h hi (by omega)
 ·cases he
theorem EmbOk.nodup {d : Db} {e : List Int × List Int} (h : EmbOk d e) : e.2.Nodup := by
 rw [List.Nodup, List.pairwise_iff_getElem]
 intro i j hi hj hij he
 exact h.apart i j hij hj (by rw [he])
def cov (d : Db) (q : Qry) (s : List Int) : Bool := (embs d q).any fun e => e.2.all fun x => decide (x ∈ s)
def need (d : Db) (q : Qry) : List (List Int) := (embs d q).map fun e => sortI e.2 []
theorem Y1e {d : Db} {q : Qry} : (embs d q).length <= 2744 := by
 unfold embs
 split
 ·rename_i h
  have ho := qOk h
  exact Nat.le_trans (Y13 ho.few _ _ _ _) (p14 ho.as3)
 ·simp
theorem Y1z {d : Db} {q : Qry} {e : List Int × List Int} (he : e ∈ embs d q) : (sortI e.2 []).Pairwise (· < ·) /\ (∀ x ∈ sortI e.2 [], 0 <= x /\ x < (d.2.length : Int)) /\ (sortI e.2 []).length <= 3 := by
 obtain ⟨h, ho⟩ := Y1s he
 refine ⟨Yz _ _ ho.nodup (by simp) List.Pairwise.nil, fun x hx => ?_, ?_⟩
 ·rw [Ys] at hx
  rcases hx with hx | hx
  ·exact ho.ins x hx
  ·cases hx
 ·have := ho.few
  rw [Y37]; simp; omega
theorem Y5a {d : Db} {e : List Int × List Int} (ho : EmbOk d e) : ∀ x ∈ sortI e.2 [], ∀ y ∈ sortI e.2 [], x ≠ y -> (factAt d x.toNat).1 ≠ (factAt d y.toNat).1 := by
 intro x hx y hy hxy
 rw [Ys] at hx hy
 have hx := hx.resolve_right (by simp)
 have hy := hy.resolve_right (by simp)
 obtain ⟨i, hi, rfl⟩ := List.mem_iff_getElem.1 hx
 obtain ⟨j, hj, rfl⟩ := List.mem_iff_getElem.1 hy
 rcases Nat.lt_trichotomy i j with h | h | h
 ·exact ho.apart i j h hj
 ·subst h; exact absurd rfl hxy
 ·exact fun e => ho.apart j i h hi e.symm
theorem Y5b {d : Db} {q : Qry} {e : List Int × List Int} (h : SmallDb d) (he : e ∈ embs d q) (hN : 1048576 < N) : Z1a N d (sortI e.2 []) = some true := by
 obtain ⟨hq, ho⟩ := Y1s he
 obtain ⟨l1, l2, l3⟩ := Y1z he
 have hvb : validDb d = true := by unfold queryFor at hq; rw [Bool.and_eq_true] at hq; exact hq.1
 have hap := Y5a ho
 generalize sortI e.2 [] = w at l1 l2 l3 hap
 have hsub := Y67 hvb l1 l2 (by omega)
 have hsm := Y68 h l2 (by omega)
 have hlen : (subDb d w).2.length = w.length := by simp [subDb]
 have hst : (blocksOf (subDb d w)).length = w.length := by
  unfold blocksOf
  rw [if_pos hsub, List.length_map]
  unfold B
  rw [List.length_map, hlen]
  unfold sts
  rw [List.filter_eq_self.2, List.length_range]
  intro s hs
  have hs := List.mem_range.1 hs
  rw [Y6]
  intro k hk
  have hk' : k < w.length := by omega
  have h1 := List.pairwise_iff_getElem.1 l1 k s hk' hs hk
  have := hap _ (List.getElem_mem hs) _ (List.getElem_mem hk') (by omega)
  unfold sameD sameK
  rw [Yw hs, Yw hk', decide_eq_false this, Bool.false_and]
 unfold Z1a
 rw [Y7h h hvb l1 l2 (by omega) hN, Option.bind_some]
 simp only [cond_true]
 unfold Z3x
 rw [Yr hsm hN, Option.bind_some, hsub, cond_true, Yv hsm hN, Option.bind_some, hst, hlen]
 simp
theorem Y3h {d : Db} {q : Qry} (h : SmallDb d) (hq : q.2.2.length <= 1048576) (hN : 1048576 < N) : Z46 N d q = some (need d q) := by
 have hfew := Y1e (d := d) (q := q)
 unfold Z46 Z8h
 rw [Y6u h hq hN, Option.bind_some]
 have := loop (fun k (s : Nat) => Z5a N k d.1 d.2 (((embs d q).take s).map fun e => sortI e.2 []) (embs d q) (s : Int)) (fun s => s <= (embs d q).length) (fun s => (embs d q).length - s) (fun o => o = some (need d q)) (fun k j hj' => by
  simp only [Z5a, Z7p]
  by_cases hj : j < (embs d q).length
  ·right
   refine ⟨j + 1, hj, by omega, ?_⟩
   have h1 : (j : Int) < ((embs d q).length : Int) := by omega
   have hm := List.getElem_mem hj
   have hfs := (Y1s hm).2.few
   have hp : Z1a N (d.1, d.2) (sortI ((embs d q)[j]).2 []) = some true := Y5b h hm hN
   simp only [h1, decide_true, cond_true, Y0 hj, grd_true, Y2 hj]
   rw [Y6x (by omega) hN, Option.bind_some, hp, Option.bind_some, cond_true, Y4 (by omega) (by simp; omega), grd_true, Y1 (by omega), List.take_succ_eq_append_getElem hj, List.map_append]
   rfl
  ·left
   have h1 : ¬ (j : Int) < ((embs d q).length : Int) := by omega
   simp only [h1, decide_false, cond_false]
   rw [List.take_of_length_le (by omega)]
   rfl) N 0 (by omega) (by omega)
 exact this
theorem Y2b {N k : Nat} {l : List (List Int)} {s : List Int} (hs : s.length <= 1048576) (hN : 1048576 < N) {i : Nat} (hi : i < l.length) (hil : i <= 1048576) : ∀ (f t : Nat) (b : Bool), (l[i]).length - t < f -> t <= (l[i]).length -> (l[i]).length <= 1048576 -> Z75 (Z2j N k) N f l s (i : Int) b (t : Int) = if (b && ((l[i]).drop t).all fun x => decide (x ∈ s)) then some true else Z2j N k l s ((i + 1 : Nat) : Int)
 | 0, t, b, hf, _, _ => by omega
 | f + 1, t, b, hf, ht, hw => by
  simp only [Z75, Z8j, Y0 hi, Y2 hi, grd_true]
  by_cases h : t < (l[i]).length
  ·have h1 : (t : Int) < ((l[i]).length : Int) := by omega
   rw [decide_eq_true h1, cond_true, Y0 h, Y2 h, grd_true, Y1 (by omega), List.drop_eq_getElem_cons h, List.all_cons]
   cases b with
   | false =>
    rw [cond_false, Y2b hs hN hi hil f (t + 1) false (by omega) h hw]
    simp
   | true =>
    rw [cond_true, Y7c hs hN, Option.bind_some, Y2b hs hN hi hil f (t + 1) _ (by omega) h hw]
    simp
  ·have h1 : ¬ (t : Int) < ((l[i]).length : Int) := by omega
   rw [decide_eq_false h1, cond_false, List.drop_eq_nil_of_le (by omega), Y1 (by omega)]
   cases b <;> simp
theorem Y23 {l : List (List Int)} {s : List Int} (hs : s.length <= 1048576) (hl : l.length <= 1048576) (hw : ∀ w ∈ l, w.length <= 1048575) (hN : 1048576 < N) : Z3d N l s = some (l.any fun w => w.all fun x => decide (x ∈ s)) := by
 unfold Z3d Z7m Z95
 rw [Y9 (n := l.length) (fun j => !((l.getD j []).all fun x => decide (x ∈ s))) (some true) (some false) (fun k i => Z2j N k l s i) (fun k => by simp [Z2j, Z7e]) (fun k j hj => ?_) (by omega)]
 ·by_cases h : (l.any fun w => w.all fun x => decide (x ∈ s)) = true
  ·rw [h, if_neg, Option.bind_some]
   intro h'
   obtain ⟨w, hw, hx⟩ := List.any_eq_true.1 h
   obtain ⟨j, hj, rfl⟩ := List.mem_iff_getElem.1 hw
   have := h' j hj
   rw [Y3 hj, hx] at this
   cases this
  ·rw [Bool.not_eq_true] at h
   rw [h, if_pos, Option.bind_some]
   intro j hj
   have := (List.any_eq_false.1 h) _ (List.getElem_mem hj)
   rw [Y3 hj]
   simpa using this
 ·have h1 : (j : Int) < (l.length : Int) := by omega
  have h2 := hw _ (List.getElem_mem hj)
  simp only [Z2j, Z7e, h1, decide_true, cond_true]
  have := Y2b (k := k) (l := l) hs hN hj (by omega) N 0 true (by omega) (by omega) (by omega)
  rw [List.drop_zero, Bool.true_and] at this
  rw [show ((0 : Nat) : Int) = 0 from rfl] at this
  rw [this, Y3 hj]
  cases (l[j].all fun x => decide (x ∈ s)) <;> simp
theorem Y4x {d : Db} {q : Qry} {s : List Int} (hs : s.length <= 1048576) (hN : 1048576 < N) : Z3d N (need d q) s = some (cov d q s) := by
 have hfew := Y1e (d := d) (q := q)
 rw [Y23 hs (by unfold need; rw [List.length_map]; omega) (fun w hw => by
  unfold need at hw
  obtain ⟨e, he, rfl⟩ := List.mem_map.1 hw
  have := (Y1z he).2.2
  omega) hN]
 unfold need cov
 rw [List.any_map]
 congr 1
 apply congrArg (fun p => List.any (embs d q) p)
 funext e
 simp only [Function.comp]
 rw [Bool.eq_iff_iff]
 simp [List.all_eq_true, Ys]
theorem Y48 : ∀ (C : List (List Int)) (k : Nat), repR C k = nth C k
 | [], k => rfl
 | c :: C, k => by simp only [repR, nth, Y48 C]
theorem Y7i (L : List (List Int)) (k : Nat) : repOf L k = repN L k := by unfold repOf repN; rw [Y48]
theorem Y4y : ∀ L : List (List Int), prodL L = sizeP L
 | [] => rfl
 | b :: L => by simp only [prodL, sizeP, Y4y L]
theorem Y24 {l : List Int} (h : l.Nodup) : l.mergeSort (fun a b => decide (a <= b)) = sortI l [] := by
 refine Y18 ?_ (Yz l [] h (fun x hx => by simp) List.Pairwise.nil) (fun x => by rw [List.mem_mergeSort, Ys]; simp)
 have h1 : (l.mergeSort fun a b => decide (a <= b)).Pairwise (fun a b => decide (a <= b) = true) := List.pairwise_mergeSort (fun a b c h1 h2 => by simp only [decide_eq_true_eq] at *; omega) (fun a b => by simp only [Bool.or_eq_true, decide_eq_true_eq]; omega) l
 have h2 : (l.mergeSort fun a b => decide (a <= b)).Nodup := (List.mergeSort_perm l _).nodup_iff.2 h
 exact (h1.and h2).imp fun {a b} h => by
  have := h.1
  have h3 := h.2
  simp only [decide_eq_true_eq] at this
  omega
theorem Y49 {N : Nat} {es : List (List Int × List Int)} (hfew : es.length <= 2744) (hlen : ∀ e ∈ es, e.2.length <= 3 /\ e.2.Nodup) : ∀ (f j : Nat) (m : Int), es.length - j < f -> j <= es.length -> m <= j -> Z5b N f ((es.take j).map fun e => sortI e.2 []) es m (es.length : Int) (j : Int) = some (es.map fun e => sortI e.2 [])
 | 0, j, m, h, _, _ => by omega
 | f + 1, j, m, h, hj', hm => by
  simp only [Z5b, Z7t]
  by_cases hj : j < es.length
  ·have h1 : (j : Int) < (es.length : Int) := by omega
   have he := hlen _ (List.getElem_mem hj)
   have hso : Z10 N (es[j]).2 = some (sortI (es[j]).2 []) := by
    unfold Z10
    rw [decide_eq_true (by omega), grd_true, Y24 he.2]
   simp only [h1, decide_true, cond_true, decide_eq_true hm, Bool.true_and, Y0 hj, grd_true, Y2 hj]
   rw [hso, Option.bind_some, Y4 (by simp) (by simp; omega), grd_true, Y1 (by omega)]
   have := Y49 (N := N) hfew hlen f (j + 1) ((j : Int) + 1) (by omega) hj (by omega)
   rw [List.take_succ_eq_append_getElem hj, List.map_append] at this
   exact this
  ·have h1 : ¬ (j : Int) < (es.length : Int) := by omega
   simp only [h1, decide_false, cond_false]
   rw [List.take_of_length_le (by omega)]
theorem Y3i {d : Db} {q : Qry} (h : SmallDb d) (hq : q.2.2.length <= 1048576) (hN : 1048576 < N) : Z49 N d q = some (need d q) := by
 have hfew := Y1e (d := d) (q := q)
 unfold Z49 Z8l
 rw [Y6v h hq hN, Option.bind_some]
 have hlen : ∀ e ∈ embs d q, e.2.length <= 3 /\ e.2.Nodup := fun e he => ⟨(Y1s he).2.few, (Y1s he).2.nodup⟩
 obtain ⟨M, rfl⟩ : ∃ M, N = M + 1 := ⟨N - 1, by omega⟩
 simp only [Z70, Z7u]
 by_cases hj : 0 < (embs d q).length
 ·have h1 : (0 : Int) < ((embs d q).length : Int) := by omega
  have he := hlen _ (List.getElem_mem hj)
  have hso : Z10 (M + 1) ((embs d q)[0]).2 = some (sortI ((embs d q)[0]).2 []) := by
   unfold Z10
   rw [decide_eq_true (by omega), grd_true, Y24 he.2]
  have hin : inb 0 (embs d q) = true := Y0 (j := 0) hj
  have hat : at_ ([], []) (embs d q) 0 = (embs d q)[0] := Y2 (j := 0) hj
  rw [decide_eq_true h1, cond_true, hin, grd_true, hat, hso, Option.bind_some, Y4 (by simp) (by simp), grd_true]
  have := Y49 (N := M + 1) hfew hlen M 1 1 (by omega) hj (by omega)
  rw [List.take_succ_eq_append_getElem hj] at this
  exact this
 ·have h0 : embs d q = [] := List.length_eq_zero_iff.1 (by omega)
  unfold need
  rw [h0]
  rfl
theorem Y7j {a s : List Int} (ha : a.length <= 1048576) (hs : s.length <= 1048576) (hN : 1048576 < N) : Z57 N a s = some (a.all fun x => decide (x ∈ s)) := by
 unfold Z57 Z0e Z0i Z21
 rw [Yd (d := (0 : Int)) (xs := a) (p := fun x => !decide (x ∈ s)) (first (n := a.length) (fun j => !decide (a.getD j 0 ∈ s)) (fun k i => Z0d N k a s (a.length : Int) i) (fun k => by simp [Z0d, Z0v]) (fun k j hj => ?_) (by omega))]
 ·rw [Option.bind_some]
  congr 1
  rw [List.any_eq_not_all_not, Bool.not_not]
  simp
 ·have h1 : (j : Int) < (a.length : Int) := by omega
  simp only [Z0d, Z0v, Z4b, h1, decide_true, cond_true, Y0 hj, grd_true, Y2 hj, Y3 hj, Y7b hs hN, Option.bind_some, Y1 (j := j) (by omega)]
  cases decide (a[j] ∈ s) <;> rfl
theorem Y4k {l : List (List Int)} {s : List Int} (hs : s.length <= 1048576) (hl : l.length <= 1048576) (hw : ∀ w ∈ l, w.length <= 1048575) (hN : 1048576 < N) : Z3h N l s = some (l.any fun w => w.all fun x => decide (x ∈ s)) := by
 unfold Z3h Z9 Z0f Z1o
 rw [Yd (d := ([] : List Int)) (xs := l) (p := fun w => w.all fun x => decide (x ∈ s)) (first (n := l.length) (fun j => (l.getD j []).all fun x => decide (x ∈ s)) (fun k i => Z8 N k l s (l.length : Int) i) (fun k => by simp [Z8, Z0q]) (fun k j hj => ?_) (by omega))]
 ·rfl
 ·have h1 : (j : Int) < (l.length : Int) := by omega
  have hwl := hw _ (List.getElem_mem hj)
  simp only [Z8, Z0q, Z42, h1, decide_true, cond_true, Y0 hj, grd_true, Y2 hj, Y3 hj, Y7j (show (l[j]).length <= 1048576 by omega) hs hN, Option.bind_some, Y1 (j := j) (by omega)]
  cases ((l[j]).all fun x => decide (x ∈ s)) <;> rfl
theorem Y7k {d : Db} {q : Qry} {s : List Int} (hs : s.length <= 1048576) (hN : 1048576 < N) : Z3h N (need d q) s = some (cov d q s) := by
 have hfew := Y1e (d := d) (q := q)
 have h1 := Y4k (N := N) (l := need d q) hs (by unfold need; rw [List.length_map]; omega) (fun w hw => by
  unfold need at hw
  obtain ⟨e, he, rfl⟩ := List.mem_map.1 hw
  have := (Y1z he).2.2
  omega) hN
 have h2 := Y23 (N := N) (l := need d q) hs (by unfold need; rw [List.length_map]; omega) (fun w hw => by
  unfold need at hw
  obtain ⟨e, he, rfl⟩ := List.mem_map.1 hw
  have := (Y1z he).2.2
  omega) hN
 rw [h1, <- h2, Y4x hs hN]
theorem Y69 {d : Db} (hvb : validDb d = true) : ∀ b ∈ blocksOf d, ∀ x ∈ b, 0 <= x /\ x < (d.2.length : Int) := by
 intro b hb x hx
 unfold blocksOf at hb
 rw [if_pos hvb] at hb
 obtain ⟨b', hb', rfl⟩ := List.mem_map.1 hb
 unfold B at hb'
 obtain ⟨s, hs, rfl⟩ := List.mem_map.1 hb'
 unfold toI at hx
 obtain ⟨k, hk, rfl⟩ := List.mem_map.1 hx
 have := List.mem_range.1 (List.mem_filter.1 hk).1
 omega
theorem Y4z (N : Nat) (w : List Int) (b : List (List Int)) (i : Int) (hi : inb i b = true) (R' : List Int -> Int -> List (List Int) -> Int -> Int -> Option Int) (R : List Int -> Int -> List (List Int) -> Int -> Option Int) (hR : ∀ x, R' w x b (b.length : Int) (w64 (i + 1)) = R w x b (w64 (i + 1))) (n : Int) :
  ∀ k s kk, Z15 R' N k w n s b (b.length : Int) i i (at_ [] b i) ((at_ [] b i).length : Int) kk = Z0w R N k w n b i s kk
 | 0, _, _ => rfl
 | k + 1, s, kk => by
  simp only [Z15, Z3i, Z0w, Z2d, hi, grd_true, hR, Y4z N w b i hi R' R hR n k]
theorem Y6a {N : Nat} (hN : 0 < N) (w : List Int) (b : List (List Int)) : ∀ k n i, Z0x N k w n b (b.length : Int) i = Z0p N k w n b i
 | 0, _, _ => rfl
 | k + 1, n, i => by
  simp only [Z0x, Z3j, Z0p, Z3e]
  cases decide (i < (b.length : Int)) with
  | false => rfl
  | true =>
   simp only [cond_true]
   cases hi : inb i b with
   | true =>
    rw [grd_true]
    exact Y4z N w b i hi _ _ (fun x => Y6a hN w b k x _) n N 0 0
   | false =>
    obtain ⟨m, rfl⟩ : ∃ m, N = m + 1 := ⟨N - 1, by omega⟩
    simp only [Z0w, Z2d, hi, grd_false]
theorem Y7m {w : List Int} {b : List (List Int)} {j : Nat} (hj : j < b.length) (hb : (b[j]).length <= 1000) (hin : ∀ x ∈ b[j], 0 <= x /\ x < (w.length : Int)) (hN : 1048576 < N) (R : List Int -> Int -> List (List Int) -> Int -> Option Int) (n : Int) :
  ∃ s, Z0w R N N w n b (j : Int) 0 0 = R w (w64 (n * s)) b (w64 ((j : Int) + 1)) := by
 have := loop (fun k (s : Int × Nat) => Z0w R N k w n b (j : Int) s.1 (s.2 : Int)) (fun s => s.2 <= (b[j]).length) (fun s => (b[j]).length - s.2) (fun o => ∃ s, o = R w (w64 (n * s)) b (w64 ((j : Int) + 1))) (fun k s hs => by
  obtain ⟨s, q⟩ := s
  simp only at hs ⊢
  by_cases hq : q < (b[j]).length
  ·right
   have e1 : (q : Int) < ((b[j]).length : Int) := by omega
   have h2 := hin _ (List.getElem_mem hq)
   refine ⟨(w64 (s + at_ 0 w (b[j])[q]), q + 1), hq, by simp only; omega, ?_⟩
   simp only [Z0w, Z2d, Y0 hj, grd_true, Y2 hj, e1, decide_true, cond_true, Y0 hq, Y2 hq, Yc h2.1 h2.2, Y1 (j := q) (by omega)]
  ·left
   have e1 : ¬ (q : Int) < ((b[j]).length : Int) := by omega
   exact ⟨s, by simp only [Z0w, Z2d, Y0 hj, grd_true, Y2 hj, e1, decide_false, cond_false]⟩) N (0, 0) (by simp only; omega) (by simp)
 exact this
theorem Y7n {w : List Int} {b : List (List Int)} (hbl : b.length <= 1000) (hb : ∀ x ∈ b, x.length <= 1000) (hin : ∀ r ∈ b, ∀ x ∈ r, 0 <= x /\ x < (w.length : Int)) (hN : 1048576 < N) : ∃ x, Z0p N N w 1 b 0 = some x := by
 have := loop (fun k (s : Int × Nat) => Z0p N k w s.1 b (s.2 : Int)) (fun s => s.2 <= b.length) (fun s => b.length - s.2) (fun o => ∃ x, o = some x) (fun k s hs => by
  obtain ⟨n, j⟩ := s
  simp only at hs ⊢
  by_cases hj : j < b.length
  ·right
   have e1 : (j : Int) < (b.length : Int) := by omega
   obtain ⟨s, hs⟩ := Y7m hj (hb _ (List.getElem_mem hj)) (hin _ (List.getElem_mem hj)) hN (Z0p N k) n
   refine ⟨(w64 (n * s), j + 1), hj, by simp only; omega, ?_⟩
   simp only [Z0p, Z3e, e1, decide_true, cond_true]
   rw [hs, Y1 (by omega)]
  ·left
   have e1 : ¬ (j : Int) < (b.length : Int) := by omega
   exact ⟨n, by simp only [Z0p, Z3e, e1, decide_false, cond_false]⟩) N (1, 0) (by simp only; omega) (by simp)
 exact this
theorem Y4l {d : Db} {w : List Int} (h : SmallDb d) (hw : w.length <= 1048576) (hN : 1048576 < N) : ∃ x, Z2f N d w = some x /\ Z1e N d w = some x := by
 unfold Z2f Z84 Z1e Z6h
 rw [Y10 h hw hN, Y11 h hw hN, Option.bind_some, Option.bind_some]
 cases hvw : validWeights d w with
 | false => exact ⟨0, rfl, rfl⟩
 | true =>
  have hvw2 := hvw
  unfold validWeights at hvw2
  simp only [Bool.and_eq_true, decide_eq_true_eq] at hvw2
  obtain ⟨hvb, hwl, _⟩ := hvw2
  obtain ⟨s1, s2, s3, s4⟩ := Yn hvb
  have hf := (Y7 hvb).few
  simp only [Bool.not_true, cond_false, Yv h hN, Y2r h hvb hN, Option.bind_some]
  obtain ⟨x, hx⟩ := Y7n (N := N) (w := w) (b := blocksOf d) (by omega) (fun r hr => by
   have : r.length ∈ sizes d := List.mem_map.2 ⟨_, hr, rfl⟩
   have := Y2s this
   omega) (fun r hr x hx => by rw [hwl]; exact Y69 hvb r hr x hx) hN
  exact ⟨x, hx, by rw [Y6a (by omega), hx]⟩
abbrev Ctx := List Int × Int × Int
structure COk (c : Ctx) : Prop where
 len : c.1.length <= 1048576
 lo : 0 <= c.2.1
 hi : c.2.1 <= c.1.length
def Dr {α : Type} (c : Ctx) (o : Option (Ctx × α)) (Q : α -> Prop) : Prop := ∃ (p : Int × Int) (x : α), o = some ((c.1, p), x) /\ COk (c.1, p) /\ Q x
theorem Dr.bind {α β : Type} {c : Ctx} {o : Option (Ctx × α)} {Q : α -> Prop} {k : Ctx × α -> Option (Ctx × β)} {Q' : β -> Prop} (h : Dr c o Q) (hk : ∀ p x, COk (c.1, p) -> Q x -> Dr (c.1, p) (k ((c.1, p), x)) Q') : Dr c (o.bind k) Q' := by
 obtain ⟨p, x, h1, h2, h3⟩ := h
 rw [h1, Option.bind_some]
 exact hk p x h2 h3
theorem Y1t {f : Nat -> Int} (hf : ∀ k, 1 <= f k) : ∀ {n k : Nat}, k <= n -> 0 <= sumN f k /\ sumN f k <= sumN f n
 | 0, k, h => by
  obtain rfl : k = 0 := by omega
  simp [sumN]
 | n + 1, k, h => by
  have h1 := hf n
  by_cases e : k = n + 1
  ·subst e
   have := (Y1t hf (n := n) (k := n) (Nat.le_refl _)).1
   simp only [sumN]
   omega
  ·have := Y1t hf (n := n) (k := k) (by omega)
   simp only [sumN]
   omega
def gcdI : Nat -> Int -> Int -> Option Int
 | 0, _, _ => none
 | k + 1, a, b => bif b != 0 then grz b (gcdI k b (a.tmod b)) else some a
theorem Y4a {N : Nat} : ∀ (k : Nat) (a b : Int), Z76 N k a b = gcdI k a b
 | 0, a, b => rfl
 | k + 1, a, b => by simp only [Z76, Z8k, gcdI, Y4a k]
theorem Y4b {N : Nat} : ∀ (k : Nat) (a b : Int), Z8f N k a b = gcdI k a b
 | 0, a, b => rfl
 | k + 1, a, b => by simp only [Z8f, Z9c, gcdI, Y4b k]
theorem Y4c : ∀ (j : Nat) (k : Nat) (a b : Nat), b < 2 ^ j -> 2 * j + 1 <= k -> 0 < a + b -> ∃ g : Nat, gcdI k (a : Int) (b : Int) = some (g : Int) /\ 1 <= g
 | 0, k, a, b, hb, hk, hp => by
  obtain ⟨k, rfl⟩ : ∃ m, k = m + 1 := ⟨k - 1, by omega⟩
  obtain rfl : b = 0 := by simpa using hb
  exact ⟨a, by simp [gcdI], by omega⟩
 | j + 1, k, a, b, hb, hk, hp => by
  obtain ⟨k, rfl⟩ : ∃ m, k = m + 1 + 1 := ⟨k - 2, by omega⟩
  by_cases h0 : b = 0
  ·subst h0; exact ⟨a, by simp [gcdI], by omega⟩
  have e1 : ((b : Int) != 0) = true := by simp; omega
  have e2 : (a : Int).tmod (b : Int) = ((a % b : Nat) : Int) := rfl
  have hz : (b : Int) ≠ 0 := by omega
  have hr : a % b < b := Nat.mod_lt _ (by omega)
  rw [gcdI, e1, cond_true, Yp hz, e2]
  by_cases h1 : a % b = 0
  ·rw [h1]; exact ⟨b, by simp [gcdI], by omega⟩
  have e3 : (((a % b : Nat) : Int) != 0) = true := by simp; omega
  have e4 : (b : Int).tmod ((a % b : Nat) : Int) = ((b % (a % b) : Nat) : Int) := rfl
  have hz2 : ((a % b : Nat) : Int) ≠ 0 := by omega
  rw [gcdI, e3, cond_true, Yp hz2, e4]
  refine Y4c j k _ _ ?_ (by omega) (by omega)
  have h2 : b % (a % b) < a % b := Nat.mod_lt _ (by omega)
  rw [Nat.pow_succ] at hb
  by_cases h3 : 2 * (a % b) <= b
  ·omega
  ·have : b % (a % b) = b - a % b := by
    rw [Nat.mod_eq_sub_mod (by omega), Nat.mod_eq_of_lt (by omega)]
   omega
def covW (d : Db) (q : Qry) (w : List Int) (k : Nat) : Int := if cov d q (repN (blocksOf d) k) then pw w (nth (blocksOf d).reverse k) else 0
theorem Y2n {f g : Nat -> Int} (h : ∀ k, 0 <= f k /\ f k <= g k) : ∀ n, 0 <= sumN f n /\ sumN f n <= sumN g n
 | 0 => by simp [sumN]
 | n + 1 => by have := h n; have := Y2n h n; simp only [sumN]; omega
structure WOk (d : Db) (w : List Int) : Prop where
 g : Good1 d w
 few : sizeP (blocksOf d) <= 16384
 pos : ∀ k, 1 <= pw w (nth (blocksOf d).reverse k)
 sum : sumN (fun k => pw w (nth (blocksOf d).reverse k)) (sizeP (blocksOf d)) = tw w (blocksOf d)
 top : 1 <= tw w (blocksOf d) /\ tw w (blocksOf d) <= 374813367582081024
 rep : ∀ k, (repN (blocksOf d) k).Pairwise (· < ·) /\ (∀ x ∈ repN (blocksOf d) k, 0 <= x /\ x < (d.2.length : Int)) /\ (repN (blocksOf d) k).length <= 14 /\ pw w (repN (blocksOf d) k) = pw w (nth (blocksOf d).reverse k)
theorem wOk {d : Db} {w : List Int} (hv : validWeights d w = true) : WOk d w := by
 have hg := Y59 hv
 have hb := hg.blks
 have hs := Y1c hb.ne
 have h2p : 2 ^ ((blocksOf d).map List.length).sum <= 2 ^ 14 := Nat.pow_le_pow_right (by decide) hb.sum
 have hT := Y58 hb.ne hb.wts
 have hT1 := Y2m hb.ne hb.wts
 have h18 : 18 ^ ((blocksOf d).map List.length).sum <= 18 ^ 14 := Nat.pow_le_pow_right (by decide) hb.sum
 rw [Y71] at h18
 have hnth := fun k => Y46 (w := w) (C := (blocksOf d).reverse) (k := k) hb.rev.1 fun c hc => hb.wts c (List.mem_reverse.1 hc)
 refine ⟨hg, by omega, fun k => Y1q (hnth k).2.1, ?_, ⟨hT1, by omega⟩, fun k => ⟨?_, ?_, ?_, Y2j w _⟩⟩
 ·rw [<- Y1g, Y21 w _ hb.rev.1, Y2k]
 ·unfold repN
  rw [List.pairwise_reverse]
  exact Y1d hb.rev.1 hb.rev.2
 ·intro x hx
  obtain ⟨c, q1, q2⟩ := Y2t hb.rev.1 x (List.mem_reverse.1 hx)
  exact hb.ins c (List.mem_reverse.1 q1) x q2
 ·unfold repN
  rw [List.length_reverse, (hnth k).2.2, List.length_reverse]
  exact hb.len
theorem WOk.bound {d : Db} {w : List Int} (h : WOk d w) (q : Qry) {k : Nat} (hk : k <= sizeP (blocksOf d)) : 0 <= sumN (covW d q w) k /\ sumN (covW d q w) k <= 374813367582081024 := by
 have h1 := Y2n (f := covW d q w) (g := fun k => pw w (nth (blocksOf d).reverse k)) (fun k => by
  have := h.pos k
  unfold covW
  split <;> omega) k
 have h2 := (Y1t h.pos hk).2
 rw [h.sum] at h2
 have := h.top
 omega
theorem Y39 {d : Db} {q : Qry} {w : List Int} {k : Nat} : sumN (covW d q w) (k + 1) = sumN (covW d q w) k + covW d q w k := rfl
theorem Y4m {d : Db} {w l : List Int} (h : SmallDb d) (hv : validWeights d w = true) (hN : 1048576 < N) (hs : l.Pairwise (· < ·)) (hin : ∀ x ∈ l, 0 <= x /\ x < (d.2.length : Int)) (hl : l.length <= 14) : Z25 N d w l = some (pw w l) := by
 have hg := Y59 hv
 have hlen := hg.len
 have hf := hg.few
 unfold Z25 Z7r
 rw [Y10 h (by omega) hN, Option.bind_some, hv, Bool.not_true, cond_false, Y4r h (by omega) hN, Option.bind_some, Y22 hs hin, Bool.not_true, cond_false]
 exact Y32 (fun x hx => hg.wts x (hin x hx).1 (hin x hx).2) (fun x hx => by rw [hlen]; exact hin x hx) hl hN
theorem Y7o {d : Db} {w : List Int} {q : Qry} (h : SmallDb d) (hv : validWeights d w = true) (hq : q.2.2.length <= 1048576) (hN : 1048576 < N) : Z7f N d w q = some (sumN (covW d q w) (sizeP (blocksOf d))) := by
 have hw := wOk hv
 have hg := hw.g
 have hfew := hw.few
 have hlen := hg.len
 unfold Z7f Z9l
 rw [Y3h h hq hN, Option.bind_some]
 exact loop (fun f (s : Nat) => Z7k N f w d.1 d.2 (sumN (covW d q w) s) (need d q) (s : Int)) (fun s => s <= sizeP (blocksOf d)) (fun s => sizeP (blocksOf d) - s) (fun o => o = some (sumN (covW d q w) (sizeP (blocksOf d)))) (fun f k hk => by
  simp only [Z7k, Z8n, Y1h (d := (d.1, d.2)) h hg hN, Option.bind_some, show blocksOf (d.1, d.2) = blocksOf d from rfl]
  by_cases hlt : k < sizeP (blocksOf d)
  ·right
   refine ⟨k + 1, hlt, by omega, ?_⟩
   have h1 : (k : Int) < ((sizeP (blocksOf d) : Nat) : Int) := by omega
   obtain ⟨r1, r2, r3, r4⟩ := hw.rep k
   have hb1 := hw.bound q (k := k) (by omega)
   have hb2 := hw.bound q (k := k + 1) hlt
   rw [decide_eq_true h1, cond_true, nthV (d := (d.1, d.2)) h hg hN hlt, Option.bind_some, show blocksOf (d.1, d.2) = blocksOf d from rfl]
   simp only
   rw [Y4x (by omega) hN, Option.bind_some]
   rw [Y39] at hb2 ⊢
   cases hc : cov d q (repN (blocksOf d) k) with
   | true =>
    have e : covW d q w k = pw w (nth (blocksOf d).reverse k) := by unfold covW; rw [hc]; rfl
    have e1 : Z25 N (d.1, d.2) w (repN (blocksOf d) k) = some (pw w (repN (blocksOf d) k)) := Y4m h hv hN r1 r2 r3
    rw [cond_true, e1, Option.bind_some, r4, <- e, Y5 (by omega) (by omega), Y1 (by omega)]
   | false =>
    have e : covW d q w k = 0 := by unfold covW; rw [hc]; rfl
    rw [cond_false, e, Int.add_zero, Y1 (by omega)]
  ·left
   have : k = sizeP (blocksOf d) := by omega
   subst this
   simp only [Int.lt_irrefl, decide_false, cond_false]) N 0 (by omega) (by omega)
theorem Y7p {d : Db} {w : List Int} {q : Qry} (h : SmallDb d) (hv : validWeights d w = true) (hN : 1048576 < N) {x : Int × Int} (hg1 : Z4q N (sumN (covW d q w) (sizeP (blocksOf d))) (tw w (blocksOf d)) = some x) :
  Z2y N N w d.1 d.2 0 0 (need d q) (blocksOf d) 0 (sizeP (blocksOf d) : Int) 0 = some (x, true) := by
 have hw := wOk hv
 have hg := hw.g
 have hb := hg.blks
 have hfew := hw.few
 have hlen := hg.len
 exact loop (fun f (s : Nat) => Z2y N f w d.1 d.2 0 0 (need d q) (blocksOf d) (sumN (covW d q w) s) (sizeP (blocksOf d) : Int) (s : Int)) (fun s => s <= sizeP (blocksOf d)) (fun s => sizeP (blocksOf d) - s) (fun o => o = some (x, true)) (fun f k hk => by
  simp only [Z2y, Z79]
  by_cases hlt : k < sizeP (blocksOf d)
  ·right
   refine ⟨k + 1, hlt, by omega, ?_⟩
   have h1 : (k : Int) < ((sizeP (blocksOf d) : Nat) : Int) := by omega
   obtain ⟨r1, r2, r3, r4⟩ := hw.rep k
   have hb1 := hw.bound q (k := k) (by omega)
   have hb2 := hw.bound q (k := k + 1) hlt
   rw [decide_eq_true h1, cond_true, Y5v (by have := hb.len; omega) hb.ne (fun b hb' => by have := hb.each b hb'; omega) (by omega) hN, Y7i, Option.bind_some, Y7k (by omega) hN, Option.bind_some]
   rw [Y39] at hb2 ⊢
   cases hc : cov d q (repN (blocksOf d) k) with
   | true =>
    have e : covW d q w k = pw w (nth (blocksOf d).reverse k) := by unfold covW; rw [hc]; rfl
    have e1 : Z58 N w (repN (blocksOf d) k) = some (pw w (repN (blocksOf d) k)) := by
     unfold Z58 Z8p
     rw [Y6y]
     exact Y32 (fun x hx => hg.wts x (r2 x hx).1 (r2 x hx).2) (fun x hx => by rw [hlen]; exact r2 x hx) r3 hN
    rw [cond_true, e1, Option.bind_some, r4, <- e, Y5 (by omega) (by omega), Y1 (by omega)]
   | false =>
    have e : covW d q w k = 0 := by unfold covW; rw [hc]; rfl
    rw [cond_false, e, Int.add_zero, Y1 (by omega)]
  ·left
   have : k = sizeP (blocksOf d) := by omega
   subst this
   have ht : Z1e N (d.1, d.2) w = some (tw w (blocksOf d)) := Y66 h hv hN
   simp only [Int.lt_irrefl, decide_false, cond_false]
   rw [ht, Option.bind_some, hg1]
   rfl) N 0 (by omega) (by omega)
theorem Y7q {n m : Int} (hn : 0 <= n) (hm : 1 <= m) (hm2 : m <= 374813367582081024) (hN : 1048576 < N) : ∃ x, Z55 N n m = some x /\ Z4q N n m = some x := by
 obtain ⟨n, rfl⟩ : ∃ k : Nat, n = k := ⟨n.toNat, by omega⟩
 obtain ⟨m, rfl⟩ : ∃ k : Nat, m = k := ⟨m.toNat, by omega⟩
 obtain ⟨g, hg, hg1⟩ := Y4c 59 N n m (by omega) (by omega) (by omega)
 refine ⟨(w64 ((n : Int).tdiv g), w64 ((m : Int).tdiv g)), ?_, ?_⟩
 ·unfold Z55 Z7n Z96
  rw [Y4a, hg, Option.bind_some, Yp (by omega), Yp (by omega)]
 ·have e : imax (g : Int) 1 = g := by unfold imax; split <;> omega
  unfold Z4q Z8x Z0aa
  rw [Y4b, hg, Option.bind_some, e, Yp (by omega), Yp (by omega)]
theorem Y4n {d : Db} {w : List Int} {q : Qry} (h : SmallDb d) (hw : w.length <= 1048576) (hq : q.2.2.length <= 1048576) (hN : 1048576 < N) : ∃ x, Z38 N d w q = some x /\ Z39 N d w q = some x := by
 unfold Z38 Z39 Z86
 rw [Y1n h hq hN, Option.bind_some, Y1o h hq hN, Option.bind_some]
 cases hqf : queryFor d q with
 | false => exact ⟨_, rfl, rfl⟩
 | true =>
  rw [Bool.not_true, cond_false, cond_false, Y10 h hw hN, Option.bind_some, Y11 h hw hN, Option.bind_some]
  cases hv : validWeights d w with
  | false => exact ⟨_, rfl, rfl⟩
  | true =>
   have hwo := wOk hv
   have hg := hwo.g
   have hb := hg.blks
   obtain ⟨x, e1, e2⟩ := Y7q (N := N) (hwo.bound q (Nat.le_refl _)).1 hwo.top.1 hwo.top.2 hN
   obtain ⟨t, t1, t2⟩ := Y4l (N := N) h hw hN
   rw [Y66 h hv hN] at t2
   have t1 : Z2f N d w = some (tw w (blocksOf d)) := by rw [Option.some.inj t2]; exact t1
   rw [Bool.not_true, cond_false, cond_false, Y7o h hv hq hN, Option.bind_some, t1, Option.bind_some, e1, Option.bind_some, Y3i h hq hN, Option.bind_some, Y2r h hg.vb hN, Option.bind_some, Y3x (by have := hb.len; omega) (by have := hb.sum; omega) hN, Option.bind_some, Y4y]
   exact ⟨_, rfl, Y7p h hv hN e2⟩
theorem law_Probability (hN : 1048576 < N) {d : T_Database} {w : List Int} {q : T_Query} (hd : in_Database d) (hq : in_Query q) : laws_FnExactProbability N d w q = some true := by
 unfold laws_FnExactProbability
 by_cases h0 : (w.length : Int) > 1048576
 ·rw [decide_eq_true h0]; rfl
 rw [decide_eq_false h0, cond_false, Y3p hd (by omega) (by omega) hN, Option.bind_some]
 by_cases h1 : (s_Database d : Int) <= 1048576
 case neg => rw [Y8 h1]; rfl
 rw [Yb h1, Y4p (by omega), cond_false, Y5m hq (by omega) (by omega) hN, Option.bind_some]
 by_cases h3 : (s_Query q : Int) <= 1048576 - (s_Database d : Int)
 case neg => rw [Y8 h3]; rfl
 rw [Yb h3, Y4p (by omega), cond_false]
 have hb : b_Database d := Y3f (by omega)
 have hbq : b_Query q := Y52 (by omega)
 have hbw : b_IntS w := by show w.length <= 1048576; omega
 have hs := Y7d hb
 have hq4 : q.2.2.length <= 1048576 := hbq.2
 obtain ⟨x, e1, e2⟩ := Y4n (N := N) (w := w) hs (by omega) hq4 hN
 simp only [Y3n hb hN, Y14 hbw hN, Y5k hbq hN, Option.bind_some, e1, e2, Y15 hbw hN, Y3o hb hN, Y5l hbq hN, decide_true, Bool.not_true, cond_false, Z51]
 simp
end Go.PL
