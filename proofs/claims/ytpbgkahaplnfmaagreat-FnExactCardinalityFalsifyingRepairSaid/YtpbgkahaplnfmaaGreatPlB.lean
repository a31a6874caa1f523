/- The plain law of the functions read plainly. Conditions: those that stand in each theorem. -/
import Derived.Test.YtpbgkahaplnfmaaGreatPlA

set_option linter.unusedVariables false
set_option linter.unusedSimpArgs false
set_option linter.unnecessarySimpa false

namespace Go.PL
variable {N : Nat}
theorem Y5 {x : Int} (h1 : -9223372036854775808 <= x) (h2 : x <= 9223372036854775807) : w64 x = x := by
 unfold w64 IntKind.wrap
 simp [IntKind.bits, IntKind.signed]
 omega
theorem Y1 {j : Nat} (h : j < 4611686018427387904) : w64 ((j : Int) + 1) = ((j + 1 : Nat) : Int) := by
 rw [Y5 (by omega) (by omega)]; omega
@[simp] theorem grd_true {α : Type} (x : Option α) : grd true x = x := rfl
@[simp] theorem grd_false {α : Type} (x : Option α) : grd false x = none := rfl
theorem Yr {α : Type} {b : Int} (h : b ≠ 0) (x : Option α) : grz b x = x := by simp [grz, h]
@[simp] theorem letv_eq {α β : Type} (v : α) (k : α -> β) : letv v k = k v := rfl
theorem Y7m {α : Type} (j : Nat) (xs : List α) : inb (j : Int) xs = decide (j < xs.length) := by
 simp [inb]
theorem Y0 {α : Type} {j : Nat} {xs : List α} (h : j < xs.length) : inb (j : Int) xs = true := by simp [Y7m, h]
theorem Y3 {α : Type} {d : α} {j : Nat} {xs : List α} (h : j < xs.length) : at_ d xs (j : Int) = xs[j] := by simp [at_, h]
theorem Ys {n : Nat} {b : Nat} (h : n * b <= 140737488355328) : makeOk (n : Int) b = true := by
 have h1 : (n : Int) * (b : Int) <= 140737488355328 := by rw [<- Int.natCast_mul]; omega
 have h2 : (0 : Int) <= n := by omega
 simp only [makeOk, h1, h2, decide_true, Bool.and_self]
theorem Y2p (bs : ByteArray) : ∀ (m i : Nat) (r : List UInt8), bs.size - i = m -> ByteArray.toList.loop bs i r = r.reverse ++ bs.data.toList.drop i
 | 0, i, r, h => by
  have hs : bs.data.toList.length = bs.size := rfl
  unfold ByteArray.toList.loop
  rw [if_neg (by omega), List.drop_of_length_le (by omega)]; simp
 | m + 1, i, r, h => by
  have hs : bs.data.toList.length = bs.size := rfl
  unfold ByteArray.toList.loop
  rw [if_pos (by omega), Y2p bs m (i + 1) _ (by omega)]
  have hi : i < bs.data.toList.length := by omega
  rw [List.drop_eq_getElem_cons hi]
  have hi2 : i < bs.data.size := by simpa using hi
  have : bs.get! i = bs.data.toList[i] := by
   show bs.data[i]! = _
   rw [getElem!_pos bs.data i hi2]; simp
  rw [this]; simp
theorem Y1r (bs : ByteArray) : bs.toList = bs.data.toList := by
 unfold ByteArray.toList; rw [Y2p bs _ 0 [] rfl]; simp
theorem Y17 (a b : ByteArray) : seq a b = decide (a = b) := by
 unfold seq
 rw [Y1r, Y1r]
 by_cases h : a = b
 ·subst h; simp
 ·have : ¬ a.data = b.data := fun h2 => h (ByteArray.ext h2)
  simp [h, this]
theorem bneI (a b : Int) : (a != b) = !decide (a = b) := by by_cases h : a = b <;> simp [h]
theorem beqI (a b : Int) : (a == b) = decide (a = b) := by by_cases h : a = b <;> simp [h]
theorem Yx {p : Prop} [Decidable p] {α : Type} (x y : Option α) : (bif !decide p then x else y) = if decide p then y else x := by by_cases h : p <;> simp [h]
theorem loop {σ R : Type} (f : Nat -> σ -> Option R) (I : σ -> Prop) (μ : σ -> Nat) (Q : Option R -> Prop) (hstep : ∀ k s, I s -> Q (f (k + 1) s) \/ ∃ s', I s' /\ μ s' < μ s /\ f (k + 1) s = f k s') : ∀ (k : Nat) (s : σ), μ s < k -> I s -> Q (f k s)
 | 0, s, hk, hs => by omega
 | k + 1, s, hk, hs => by
  rcases hstep k s hs with h | ⟨s', h1, h2, h3⟩
  ·exact h
  ·rw [h3]
   exact loop f I μ Q hstep k s' (by omega) h1
theorem Y3e {α : Type} {out a : List α} {j : Nat} {y : α} (h1 : j < a.length) (h2 : j < out.length) (ht : out.take j = a.take j) (hy : y = a[j]) : (out.set j y).take (j + 1) = a.take (j + 1) := by
 subst hy
 rw [List.take_set, List.take_succ_eq_append_getElem h2, List.take_succ_eq_append_getElem h1, ht]
 simp [List.set_append_right, List.length_take, Nat.min_eq_left (Nat.le_of_lt h1)]
theorem fill {β : Type} {b : List β} (f : Nat -> List β -> Int -> Option (List β)) (hend : ∀ k out, f (k + 1) out (b.length : Int) = some out)
  (hstep : ∀ k out j (h : j < b.length), out.length = b.length -> f (k + 1) out (j : Int) = f k (out.set j b[j]) ((j + 1 : Nat) : Int)) {k : Nat} (hk : b.length < k) {out : List β} (ho : out.length = b.length) : f k out 0 = some b := by
 have := loop (fun k (s : List β × Nat) => f k s.1 (s.2 : Int)) (fun s => s.1.length = b.length /\ s.2 <= b.length /\ s.1.take s.2 = b.take s.2) (fun s => b.length - s.2) (fun o => o = some b) (fun k s hs => by
  obtain ⟨out, j⟩ := s
  obtain ⟨h1, h2, h3⟩ := hs
  simp only at h1 h2 h3 ⊢
  by_cases hj : j < b.length
  ·right
   exact ⟨(out.set j b[j], j + 1), ⟨by simp [h1], hj, Y3e hj (by omega) h3 rfl⟩, by simp only; omega, hstep k out j hj h1⟩
  ·left
   have : j = b.length := by omega
   subst this
   rw [hend, <- List.take_of_length_le (Nat.le_of_eq h1), h3, List.take_length]) k (out, 0) (by simpa using hk) ⟨ho, by simp, by simp⟩
 exact this
theorem Y11 {n : Nat} (p : Nat -> Bool) (f : Nat -> Int -> Option Bool) (hend : ∀ k, f (k + 1) (n : Int) = some true) (hstep : ∀ k j, j < n -> f (k + 1) (j : Int) = if p j then f k ((j + 1 : Nat) : Int) else some false) {k : Nat} (hk : n < k) : f k 0 = some (decide (∀ j, j < n -> p j = true)) := by
 have := loop (fun k (j : Nat) => f k (j : Int)) (fun j => j <= n /\ ∀ i, i < j -> p i = true) (fun j => n - j) (fun o => o = some (decide (∀ j, j < n -> p j = true))) (fun k j hs => by
  obtain ⟨h1, h2⟩ := hs
  by_cases hj : j < n
  ·rw [hstep k j hj]
   cases hp : p j with
   | true =>
    right
    exact ⟨j + 1, ⟨hj, fun i hi => by rcases Nat.lt_or_eq_of_le (Nat.le_of_lt_succ hi) with h | h; exact h2 i h; rw [h]; exact hp⟩, by omega, by simp⟩
   | false =>
    left
    have : ¬ ∀ j, j < n -> p j = true := fun h => by have := h j hj; rw [hp] at this; simp at this
    simp [this]
  ·left
   have : j = n := by omega
   subst this
   rw [hend]
   simp only [Option.some.injEq]
   symm
   simpa using h2) k 0 (by simpa using hk) ⟨by omega, by omega⟩
 exact this
theorem Y7 {R : Type} {n : Nat} (p : Nat -> Bool) (no e : Option R) (f : Nat -> Int -> Option R) (hend : ∀ k, f (k + 1) (n : Int) = e) (hstep : ∀ k j, j < n -> f (k + 1) (j : Int) = if p j then f k ((j + 1 : Nat) : Int) else no) {k : Nat} (hk : n < k) : f k 0 = if ∀ j, j < n -> p j = true then e else no := by
 have := loop (fun k (j : Nat) => f k (j : Int)) (fun j => j <= n /\ ∀ i, i < j -> p i = true) (fun j => n - j) (fun o => o = if ∀ j, j < n -> p j = true then e else no) (fun k j hs => by
  obtain ⟨h1, h2⟩ := hs
  by_cases hj : j < n
  ·rw [hstep k j hj]
   cases hp : p j with
   | true =>
    right
    exact ⟨j + 1, ⟨hj, fun i hi => by rcases Nat.lt_or_eq_of_le (Nat.le_of_lt_succ hi) with h | h; exact h2 i h; rw [h]; exact hp⟩, by omega, by simp⟩
   | false =>
    left
    have : ¬ ∀ j, j < n -> p j = true := fun h => by have := h j hj; rw [hp] at this; simp at this
    simp [this]
  ·left
   have : j = n := by omega
   subst this
   rw [hend, if_pos h2]) k 0 (by simpa using hk) ⟨by omega, by omega⟩
 exact this
theorem first {n : Nat} (p : Nat -> Bool) (f : Nat -> Int -> Option Int) (hend : ∀ k, f (k + 1) (n : Int) = some (-1)) (hstep : ∀ k j, j < n -> f (k + 1) (j : Int) = if p j then some (j : Int) else f k ((j + 1 : Nat) : Int)) {k : Nat} (hk : n < k) :
  (∃ j, j < n /\ p j = true /\ (∀ i, i < j -> p i = false) /\ f k 0 = some (j : Int)) \/ ((∀ i, i < n -> p i = false) /\ f k 0 = some (-1)) := by
 have := loop (fun k (j : Nat) => f k (j : Int)) (fun j => j <= n /\ ∀ i, i < j -> p i = false) (fun j => n - j) (fun o => (∃ j, j < n /\ p j = true /\ (∀ i, i < j -> p i = false) /\ o = some (j : Int)) \/ ((∀ i, i < n -> p i = false) /\ o = some (-1))) (fun k j hs => by
  obtain ⟨h1, h2⟩ := hs
  by_cases hj : j < n
  ·rw [hstep k j hj]
   cases hp : p j with
   | true => left; left; exact ⟨j, hj, hp, h2, rfl⟩
   | false =>
    right
    exact ⟨j + 1, ⟨hj, fun i hi => by rcases Nat.lt_or_eq_of_le (Nat.le_of_lt_succ hi) with h | h; exact h2 i h; rw [h]; exact hp⟩, by omega, by simp⟩
  ·left; right
   have : j = n := by omega
   subst this
   exact ⟨h2, hend k⟩) k 0 (by simpa using hk) ⟨by omega, by omega⟩
 exact this
theorem Yc {j : Nat} (h : 0 < j) (h2 : j < 4611686018427387904) : w64 ((j : Int) - 1) = ((j - 1 : Nat) : Int) := by
 rw [Y5 (by omega) (by omega)]; omega
theorem Y8 {α : Type} {i : Int} {xs : List α} (h0 : 0 <= i) (h : i < xs.length) : inb i xs = true := by simp [inb, h0, h]
theorem Y5f {α : Type} {d : α} {i : Int} {xs : List α} (h0 : 0 <= i) (h : i < xs.length) : at_ d xs i = xs[i.toNat]'(by omega) := by
 unfold at_
 rw [List.getD_eq_getElem?_getD, List.getElem?_eq_getElem (by omega)]
 rfl
def in_int (x : Int) : Prop := IntKind.min .i64 <= x /\ x <= IntKind.max .i64
def in_str (x : ByteArray) : Prop := x.size <= 9223372036854775807
def s_str (x : ByteArray) : Nat := x.size
def b_str (x : ByteArray) : Prop := x.size <= 1048576
theorem Y6p {x : ByteArray} (h : s_str x <= 1048576) : b_str x := h
theorem bneB (a b : Bool) : (a != b) = !decide (a = b) := by cases a <;> cases b <;> rfl
theorem beqB (a b : Bool) : (a == b) = decide (a = b) := by cases a <;> cases b <;> rfl
theorem Yh {α : Type} [DecidableEq α] {a b : List α} (h : a.length = b.length) : (a = b) ↔ ∀ j, j < a.length -> (decide (a[j]? = b[j]?)) = true := by
 constructor
 ·rintro rfl j _; simp
 ·intro h2
  apply List.ext_getElem?
  intro j
  by_cases hj : j < a.length
  ·simpa using h2 j hj
  ·rw [List.getElem?_eq_none (by omega), List.getElem?_eq_none (by omega)]
def sub1 (l : Int) (s : Nat) : Int := if (s : Int) <= l then l - s else -1
theorem Yd {l : Int} {s : Nat} (h : (s : Int) <= l) : sub1 l s = l - s := if_pos h
theorem Y9 {l : Int} {s : Nat} (h : ¬ (s : Int) <= l) : sub1 l s = -1 := if_neg h
def sumL {α : Type} (s : α -> Nat) (a : List α) : Nat := a.length + (a.map s).sum
theorem Y2c {α : Type} {s : α -> Nat} {a : List α} {m : Nat} (h : sumL s a <= m) : a.length <= m := Nat.le_trans (Nat.le_add_right _ _) h
theorem Y4p {α : Type} {s : α -> Nat} : ∀ {a : List α} {y : α}, y ∈ a -> s y <= (a.map s).sum
 | [], y, h => by simp at h
 | x :: a, y, h => by
  rcases List.mem_cons.1 h with rfl | h
  ·simp
  ·have := Y4p (s := s) h
   simp only [List.map_cons, List.sum_cons]; omega
theorem Y2d {α : Type} {s : α -> Nat} {a : List α} {y : α} (h : y ∈ a) : s y <= sumL s a := Nat.le_trans (Y4p h) (Nat.le_add_left _ _)
theorem szL {α : Type} {a : List α} {s : α -> Nat} {g : α -> Int -> Option Int} {f : Nat -> Int -> Int -> Option Int} (hg : ∀ x ∈ a, ∀ l : Int, 0 <= l -> l <= 1048576 -> g x l = some (sub1 l (s x)))
  (hend : ∀ k l, f (k + 1) l (a.length : Int) = some l) (hstep : ∀ k l j (h : j < a.length), f (k + 1) l (j : Int) = (g a[j] l).bind fun r => bif decide (r < 0) then some (-1) else f k r ((j + 1 : Nat) : Int))
  {k : Nat} (hk : a.length < k) {l : Int} (h0 : 0 <= l) (h1 : l <= 1048576) : f k l 0 = some (sub1 l ((a.map s).sum)) := by
 have := loop (fun k (q : Int × Nat) => f k q.1 (q.2 : Int)) (fun q => 0 <= q.1 /\ q.1 <= 1048576 /\ q.2 <= a.length /\ sub1 q.1 (((a.drop q.2).map s).sum) = sub1 l ((a.map s).sum)) (fun q => a.length - q.2) (fun o => o = some (sub1 l ((a.map s).sum))) (fun k q hs => by
  obtain ⟨v, j⟩ := q
  obtain ⟨g0, g1, g2, g3⟩ := hs
  simp only at g0 g1 g2 g3 ⊢
  by_cases hj : j < a.length
  ·rw [hstep k v j hj, hg a[j] (List.getElem_mem hj) v g0 g1, Option.bind_some]
   rw [List.drop_eq_getElem_cons hj, List.map_cons, List.sum_cons] at g3
   by_cases hc : (s a[j] : Int) <= v
   ·right
    refine ⟨(v - s a[j], j + 1), ⟨by simp only; omega, by simp only; omega, hj, ?_⟩, by simp only; omega, ?_⟩
    ·rw [<- g3]; simp only [sub1]; split <;> split <;> omega
    ·rw [Yd hc, decide_eq_false (by omega), cond_false]
   ·left
    rw [Y9 hc, decide_eq_true (by omega), cond_true]
    rw [<- g3, Y9 (by omega)]
  ·left
   have : j = a.length := by omega
   subst this
   rw [hend]
   rw [List.drop_length] at g3
   rw [<- g3]; simp [sub1, g0]) k (l, 0) (by simpa using hk) ⟨h0, h1, by simp, by simp⟩
 exact this
def mkL {α : Type} (c : α -> Nat) (mv : α -> Int -> α) : List α -> Int -> List α
 | [], _ => []
 | x :: r, k => mv x k :: mkL c mv r (k + (c x : Int))
def costL {α : Type} (c : α -> Nat) (a : List α) : Nat := (a.map c).sum
theorem Y2e {α : Type} {c : α -> Nat} (h : ∀ x, c x <= 8) : ∀ a : List α, costL c a <= 8 * a.length
 | [] => by simp [costL]
 | x :: a => by
  have h1 := h x
  have h2 := Y2e h a
  simp only [costL, List.map_cons, List.sum_cons, List.length_cons] at h2 ⊢; omega
theorem Y12 {α : Type} {c s : α -> Nat} (h : ∀ x, c x <= 8 + 8 * s x) : ∀ a : List α, costL c a <= 8 * sumL s a
 | [] => by simp [costL, sumL]
 | x :: a => by
  have h1 := h x
  have h2 := Y12 h a
  simp only [costL, sumL, List.map_cons, List.sum_cons, List.length_cons] at h2 ⊢; omega
theorem Y2q {α : Type} (c : α -> Nat) (mv : α -> Int -> α) : ∀ (a : List α) (k : Int), (mkL c mv a k).length = a.length
 | [], k => rfl
 | x :: a, k => by simp [mkL, Y2q c mv a]
theorem Y18 {α : Type} {xs : List α} {j : Nat} {v : α} {i : Int} : inb i (xs.set j v) = inb i xs := by simp [inb]
theorem Y1s {α : Type} {d : α} {xs : List α} {j : Nat} {v : α} (h : j < xs.length) : at_ d (xs.set j v) (j : Int) = v := by simp [at_, h]
theorem Y19 {α : Type} {xs : List α} {j : Nat} {a b : α} : (xs.set j a).set j b = xs.set j b := by simp
theorem Y1a {x : Int} (h0 : 0 <= x) (h1 : x <= 4611686018427387904) : w64 x = x := Y5 (by omega) (by omega)
theorem Yy {x : Int} (h : 0 <= x) : decide (x < 0) = false := decide_eq_false (by omega)
theorem Y2r {α : Type} {c : α -> Nat} {mv : α -> Int -> α} {P : α -> Prop} {f : Nat -> List α -> Int -> Int -> Option (List α × Int)}
  (hend : ∀ k a2 k2 (j : Nat), j = a2.length -> f (k + 1) a2 k2 (j : Int) = some (a2, k2))
  (hstep : ∀ k a2 k2 (j : Nat) (h : j < a2.length), P a2[j] -> 0 <= k2 -> k2 + (c a2[j] : Int) <= 4611686018427387904 -> j < 1048576 -> f (k + 1) a2 k2 (j : Int) = f k (a2.set j (mv a2[j] k2)) (k2 + (c a2[j] : Int)) ((j + 1 : Nat) : Int))
  {a : List α} (hP : ∀ y ∈ a, P y) {k0 : Int} (h0 : 0 <= k0) (h1 : k0 + (costL c a : Int) <= 4611686018427387904) (hl : a.length <= 1048576) {k : Nat} (hk : a.length < k) : f k a k0 0 = some (mkL c mv a k0, k0 + (costL c a : Int)) := by
 have := loop (fun k (q : List α × Int × Nat) => f k q.1 q.2.1 (q.2.2 : Int)) (fun q => ∃ done, q.1 = done ++ a.drop q.2.2 /\ done.length = q.2.2 /\ q.2.2 <= a.length /\ done ++ mkL c mv (a.drop q.2.2) q.2.1 = mkL c mv a k0 /\ q.2.1 + (costL c (a.drop q.2.2) : Int) = k0 + (costL c a : Int) /\ 0 <= q.2.1) (fun q => a.length - q.2.2) (fun o => o = some (mkL c mv a k0, k0 + (costL c a : Int))) (fun k q hs => by
  obtain ⟨a2, k2, j⟩ := q
  obtain ⟨done, g1, g2, g3, g4, g5, g6⟩ := hs
  simp only at g1 g2 g3 g4 g5 g6 ⊢
  by_cases hj : j < a.length
  ·right
   rw [List.drop_eq_getElem_cons hj] at g1 g4 g5
   have hj2 : j < a2.length := by rw [g1]; simp; omega
   have ha2 : a2[j] = a[j] := by
    have : a2[j]? = some a[j] := by rw [g1, List.getElem?_append_right (by omega), g2]; simp
    rw [List.getElem?_eq_getElem hj2] at this
    exact Option.some.inj this
   simp only [costL, List.map_cons, List.sum_cons, Int.natCast_add] at g5
   have hcost : 0 <= (((a.drop (j + 1)).map c).sum : Int) := by omega
   refine ⟨(a2.set j (mv a2[j] k2), k2 + (c a2[j] : Int), j + 1), ⟨done ++ [mv a[j] k2], ?_, by simp [g2], hj, ?_, ?_, by simp only; omega⟩, by simp only; omega, ?_⟩
   ·simp only
    rw [ha2, g1, List.set_append_right _ _ (by omega), g2, Nat.sub_self, List.set_cons_zero, List.append_assoc]
    rfl
   ·simp only [ha2]
    rw [<- g4]; simp [mkL]
   ·rw [ha2]; simp only [costL] at g5 ⊢; omega
   ·exact hstep k a2 k2 j hj2 (by rw [ha2]; exact hP _ (List.getElem_mem hj)) g6 (by rw [ha2]; simp only [costL] at g5 h1 ⊢; omega) (by omega)
  ·left
   have hja : j = a.length := by omega
   subst hja
   rw [List.drop_length] at g1 g4 g5
   rw [hend k a2 k2 a.length (by rw [g1]; simp [g2])]
   simp only [mkL, List.append_nil] at g1 g4
   simp only [costL, List.map_nil, List.sum_nil] at g5
   rw [g1, g4]
   simp only [costL] at g5 ⊢
   congr 2; omega) k (a, k0, 0) (by simpa using hk) ⟨[], by simp, rfl, by simp, by simp, by simp, h0⟩
 exact this
theorem Y81 {α : Type} {c : α -> Nat} {mv : α -> Int -> α} {P : α -> Prop} {f : Nat -> List α -> Int -> Int -> Option Int}
  (hend : ∀ k a2 k2 (j : Nat), j = a2.length -> f (k + 1) a2 k2 (j : Int) = some k2)
  (hstep : ∀ k a2 k2 (j : Nat) (y : α) (h : j < a2.length), P y -> 0 <= k2 -> k2 + (c y : Int) <= 4611686018427387904 -> j < 1048576 -> a2[j] = mv y k2 -> f (k + 1) a2 k2 (j : Int) = f k a2 (k2 + (c y : Int)) ((j + 1 : Nat) : Int))
  {a : List α} (hP : ∀ y ∈ a, P y) {k0 : Int} (h0 : 0 <= k0) (h1 : k0 + (costL c a : Int) <= 4611686018427387904) (hl : a.length <= 1048576) {k : Nat} (hk : a.length < k) : f k (mkL c mv a k0) k0 0 = some (k0 + (costL c a : Int)) := by
 have hlen := Y2q c mv a k0
 have := loop (fun k (q : Int × Nat) => f k (mkL c mv a k0) q.1 (q.2 : Int)) (fun q => q.2 <= a.length /\ (mkL c mv a k0).drop q.2 = mkL c mv (a.drop q.2) q.1 /\ q.1 + (costL c (a.drop q.2) : Int) = k0 + (costL c a : Int) /\ 0 <= q.1) (fun q => a.length - q.2) (fun o => o = some (k0 + (costL c a : Int))) (fun k q hs => by
  obtain ⟨k2, j⟩ := q
  obtain ⟨g3, g4, g5, g6⟩ := hs
  simp only at g3 g4 g5 g6 ⊢
  by_cases hj : j < a.length
  ·right
   have hj2 : j < (mkL c mv a k0).length := by omega
   rw [List.drop_eq_getElem_cons hj2, List.drop_eq_getElem_cons hj] at g4
   simp only [mkL, List.cons.injEq] at g4
   rw [List.drop_eq_getElem_cons hj] at g5
   simp only [costL, List.map_cons, List.sum_cons, Int.natCast_add] at g5
   have hcost : 0 <= (((a.drop (j + 1)).map c).sum : Int) := by omega
   refine ⟨(k2 + (c a[j] : Int), j + 1), ⟨hj, g4.2, ?_, by simp only; omega⟩, by simp only; omega, ?_⟩
   ·simp only [costL] at g5 ⊢; omega
   ·exact hstep k _ k2 j a[j] hj2 (hP _ (List.getElem_mem hj)) g6 (by simp only [costL] at g5 h1 ⊢; omega) (by omega) g4.1
  ·left
   have hja : j = a.length := by omega
   subst hja
   rw [List.drop_length] at g5
   rw [hend k _ k2 a.length hlen.symm]
   simp only [costL, List.map_nil, List.sum_nil] at g5 ⊢
   congr 1; omega) k (k0, 0) (by simpa using hk) ⟨by simp, by simp, by simp, h0⟩
 exact this
theorem ofB1 (x : Int) : (ofBytes [x]).size = 1 := rfl
theorem Y2a {N : Nat} : ∀ (m : Nat) (k : Int) (out : ByteArray) (f : Nat), 0 <= k -> k <= 9223372036854775807 -> k < 10 ^ m -> out.size + m <= 1000 -> m < f -> ∃ s, Z4n N f k out = some s
 | 0, k, out, f, h0, hbig, h1, h2, h3 => by
  obtain ⟨f, rfl⟩ : ∃ f', f = f' + 1 := ⟨f - 1, by omega⟩
  have hk : ¬ k > 0 := by
   have : k < 1 := by simpa using h1
   omega
  simp only [Z4n, Z68, hk, decide_false, cond_false]
  have : catOk (⟨#[109]⟩ : ByteArray) out = true := decide_eq_true (by show 1 + out.size <= _; omega)
  rw [this, grd_true]
  exact ⟨_, rfl⟩
 | m + 1, k, out, f, h0, hbig, h1, h2, h3 => by
  obtain ⟨f, rfl⟩ : ∃ f', f = f' + 1 := ⟨f - 1, by omega⟩
  by_cases hk : k > 0
  ·simp only [Z4n, Z68, hk, decide_true, cond_true]
   have hc : ∀ x : Int, catOk (ofBytes [x]) out = true := fun x => decide_eq_true (by rw [ofB1]; omega)
   rw [Yr (by decide), hc, grd_true, Yr (by decide)]
   have hd0 : 0 <= k.tdiv 10 := Int.tdiv_nonneg h0 (by decide)
   have hp : (10 : Int) ^ (m + 1) = 10 ^ m * 10 := Int.pow_succ _ _
   have hd1 : k.tdiv 10 < 10 ^ m := by
    rw [Int.tdiv_eq_ediv_of_nonneg h0]
    have := Int.ediv_lt_of_lt_mul (a := k) (b := 10 ^ m) (c := 10) (by decide) (by rw [<- hp]; exact h1)
    exact this
   have hle : k.tdiv 10 <= k := by rw [Int.tdiv_eq_ediv_of_nonneg h0]; exact Int.ediv_le_self _ h0
   rw [Y5 (by omega) (by omega)]
   exact Y2a m _ _ f hd0 (by omega) hd1 (by rw [ByteArray.size_append, ofB1]; omega) (by omega)
  ·simp only [Z4n, Z68, hk, decide_false, cond_false]
   have : catOk (⟨#[109]⟩ : ByteArray) out = true := decide_eq_true (by show 1 + out.size <= _; omega)
   rw [this, grd_true]
   exact ⟨_, rfl⟩
def mkTx (N : Nat) (k : Int) : ByteArray := (Z3j N k).getD ⟨#[]⟩
def MtOk (N : Nat) : Prop := ∀ k : Int, 0 <= k -> k <= 4611686018427387904 -> Z3j N k = some (mkTx N k)
theorem Y82 (h : MtOk N) {k : Int} (h0 : 0 <= k) (h1 : k <= 4611686018427387904) : Z3j N k = some (mkTx N k) := h k h0 h1
theorem mtOk (hN : 1048576 < N) : MtOk N := by
 intro k h0 h1
 have : ∃ s, Z3j N k = some s := by
  unfold Z3j Z0a7
  by_cases hk : k <= 0
  ·exact ⟨_, by rw [decide_eq_true hk]; rfl⟩
  ·rw [decide_eq_false hk, cond_false]
   exact Y2a 19 k _ N h0 (by omega) (by omega) (by decide) (by omega)
 obtain ⟨s, hs⟩ := this
 rw [mkTx, hs]; rfl
abbrev T_IntS := List Int
def in_IntS (a : T_IntS) : Prop := a.length <= 9223372036854775807 /\ ∀ y ∈ a, in_int y
def s_IntS (a : T_IntS) : Nat := a.length
def b_IntS (a : T_IntS) : Prop := a.length <= 1048576
theorem Y1t {a : T_IntS} (h : s_IntS a <= 1048576) : b_IntS a := h
theorem Y2f {a : T_IntS} (h : b_IntS a) (hN : 1048576 < N) : Z49 N a = some a := by
 have hl : a.length <= 1048576 := h
 unfold Z49 Z0aw
 rw [Ys (by omega), grd_true]
 refine fill (b := a) (fun k out i => Z70 N k a out i) (fun k out => by simp [Z70, Z8x]) (fun k out j h1 h3 => ?_) (by omega) (by simp)
 have h2 : j < out.length := by omega
 have hj : (j : Int) < (a.length : Int) := by omega
 simp [Z70, Z8x, hj, Y0 h1, Y0 h2, Y3 h1, Y1 (j := j) (by omega)]
theorem Y1h {a b : T_IntS} (h : b_IntS a) (hN : 1048576 < N) : Z22 N a b = some (decide (a = b)) := by
 have hla : a.length <= 1048576 := h
 unfold Z22 Z0b5
 by_cases hl : a.length = b.length
 ·have h0 : ((a.length : Int) != (b.length : Int)) = false := by simp [hl]
  rw [h0, cond_false, decide_eq_decide.2 (Yh hl)]
  refine Y11 (n := a.length) (fun j => decide (a[j]? = b[j]?)) (fun k i => Z71 N k a b i) (fun k => by simp [Z71, Z98]) (fun k j hj => ?_) (by omega)
  have h1 : (j : Int) < (a.length : Int) := by omega
  have h2 : j < b.length := by omega
  simp only [Z71, Z98, h1, decide_true, cond_true, Y0 hj, Y0 h2, grd_true, Y3 hj, Y3 h2, bneI, Yx, Y1 (j := j) (by omega), List.getElem?_eq_getElem hj, List.getElem?_eq_getElem h2, Option.some.injEq]
 ·have h0 : ((a.length : Int) != (b.length : Int)) = true := by simp; omega
  rw [h0, cond_true]
  have : a ≠ b := fun h => hl (by rw [h])
  simp [this]
theorem Y2g {a : T_IntS} {l : Int} (h : in_IntS a) (h0 : 0 <= l) (h1 : l <= 1048576) (hN : 1048576 < N) : Z48 N a l = some (sub1 l (s_IntS a)) := by
 have := h.1
 unfold Z48 s_IntS sub1
 rw [Y5 (by omega) (by omega)]
 by_cases h : (a.length : Int) <= l
 ·rw [if_pos h, decide_eq_false (by omega)]; rfl
 ·rw [if_neg h, decide_eq_true (by omega)]; rfl
def me_IntS (N : Nat) (x : Int) (k : Int) : Int := k
def ce_IntS (x : Int) : Nat := 1
def mk_IntS (N : Nat) (a : T_IntS) (k : Int) : T_IntS := mkL ce_IntS (me_IntS N) a k
def c_IntS (a : T_IntS) : Nat := costL ce_IntS a
theorem Y2h (a : T_IntS) : c_IntS a <= 8 * s_IntS a := Y2e (c := ce_IntS) (fun x => by show 1 <= 8; omega) a
theorem Y1i {a : T_IntS} {k : Int} (h : b_IntS a) (h0 : 0 <= k) (h1 : k + (c_IntS a : Int) <= 4611686018427387904) (hN : 1048576 < N) : Z1s N a k = some (mk_IntS N a k, k + (c_IntS a : Int)) := by
 have hla : a.length <= 1048576 := h
 unfold Z1s Z0a8
 refine Y2r (P := fun y => True) (f := fun k a2 k2 i => Z5p N k a2 k2 i) (fun k a2 k2 j hj => by subst hj; simp [Z5p, Z80]) (fun k a2 k2 j h1 hy h0 hc hl => ?_) (fun _ _ => trivial) h0 h1 (by omega) (by omega)
 have h2 : (j : Int) < (a2.length : Int) := by omega
 simp only [ce_IntS, Int.natCast_add, Int.cast_ofNat_Int, Int.natCast_one] at hc
 simp (disch := first | assumption | omega) only [Z5p, Z80, h2, decide_true, cond_true, Y0 h1, Y18, grd_true, Yr, letv_eq, Y3 h1, Y1s, Y19, Int.toNat_natCast, Y1a, Y1, Option.bind_some, Option.bind_some]
 simp only [ce_IntS, me_IntS, Int.natCast_add, Int.cast_ofNat_Int, Int.natCast_one, Int.add_assoc]
theorem Y6q {a : T_IntS} {k : Int} (h : b_IntS a) (h0 : 0 <= k) (h1 : k + (c_IntS a : Int) <= 4611686018427387904) (hN : 1048576 < N) : Z58 N (mk_IntS N a k) k = some (k + (c_IntS a : Int)) := by
 have hla : a.length <= 1048576 := h
 unfold Z58 Z0aa
 refine Y81 (P := fun y => True) (f := fun k a2 k2 i => Z5t N k a2 k2 i) (fun k a2 k2 j hj => by subst hj; simp [Z5t, Z81]) (fun k a2 k2 j y h1 hy h0 hc hl he => ?_) (fun _ _ => trivial) h0 h1 (by omega) (by omega)
 have h2 : (j : Int) < (a2.length : Int) := by omega
 simp only [ce_IntS, Int.natCast_add, Int.cast_ofNat_Int, Int.natCast_one] at hc
 simp only [Z5t, Z81, h2, decide_true, cond_true, Y0 h1, grd_true, Y3 h1, he, me_IntS]
 simp (disch := first | assumption | omega) only [bneI, bneB, beqB, decide_true, Bool.not_true, cond_false, Y1a, Y1, Option.bind_some, Yy, Yr, Int.add_assoc, Option.bind_some]
 simp only [ce_IntS, Int.natCast_add, Int.cast_ofNat_Int, Int.natCast_one, Int.add_assoc]
abbrev T_Relation := ByteArray × Int × Int
def in_Relation (x : T_Relation) : Prop := in_str x.1 /\ in_int x.2.1 /\ in_int x.2.2
def s_Relation (x : T_Relation) : Nat := s_str x.1
def b_Relation (x : T_Relation) : Prop := b_str x.1
theorem Y3f {x : T_Relation} (h : s_Relation x <= 1048576) : b_Relation x := Y6p (by unfold s_Relation at h; omega)
theorem Y3o {x : T_Relation} (h : b_Relation x) (hN : 1048576 < N) : Z4v N x = some x := by
 simp [Z4v]
theorem Y3p {x y : T_Relation} (h : b_Relation x) (hN : 1048576 < N) : Z51 N x y = some (decide (x = y)) := by
 simp only [Z51, bneI, bneB, beqB, Y17, Option.bind_some]
 obtain ⟨x0, x1, x2⟩ := x
 obtain ⟨y0, y1, y2⟩ := y
 simp only [Prod.mk.injEq]
 by_cases e0 : x0 = y0 <;>
 by_cases e1 : x1 = y1 <;>
 by_cases e2 : x2 = y2 <;> simp [e0, e1, e2]
theorem Y3q {x : T_Relation} {l : Int} (h : in_Relation x) (h0 : 0 <= l) (h1 : l <= 1048576) (hN : 1048576 < N) : Z42 N x l = some (sub1 l (s_Relation x)) := by
 have : x.1.size <= 9223372036854775807 := h.1
 unfold Z42 s_Relation s_str sub1
 rw [Y5 (by omega) (by omega)]
 by_cases h : (x.1.size : Int) <= l
 ·rw [if_pos h, decide_eq_false (by omega)]; rfl
 ·rw [if_neg h, decide_eq_true (by omega)]; rfl
abbrev T_RelationS := List T_Relation
def in_RelationS (a : T_RelationS) : Prop := a.length <= 9223372036854775807 /\ ∀ y ∈ a, in_Relation y
def s_RelationS (a : T_RelationS) : Nat := sumL s_Relation a
def b_RelationS (a : T_RelationS) : Prop := a.length <= 1048576 /\ ∀ y ∈ a, b_Relation y
theorem Y2w {a : T_RelationS} (h : s_RelationS a <= 1048576) : b_RelationS a := ⟨(Y2c h), fun y hy => Y3f (Nat.le_trans (Y2d hy) h)⟩
theorem Y3g {a : T_RelationS} (h : b_RelationS a) (hN : 1048576 < N) : Z4i N a = some a := by
 have hl : a.length <= 1048576 := h.1
 unfold Z4i Z9n
 rw [Ys (by omega), grd_true]
 refine fill (b := a) (fun k out i => Z45 N k a out i) (fun k out => by simp [Z45, Z6c]) (fun k out j h1 h3 => ?_) (by omega) (by simp)
 have h2 : j < out.length := by omega
 have hj : (j : Int) < (a.length : Int) := by omega
 simp [Z45, Z6c, hj, Y0 h1, Y0 h2, Y3 h1, Y3o (h.2 _ (List.getElem_mem h1)) hN, Y1 (j := j) (by omega)]
theorem Y3h {a b : T_RelationS} (h : b_RelationS a) (hN : 1048576 < N) : Z4m N a b = some (decide (a = b)) := by
 have hla : a.length <= 1048576 := h.1
 unfold Z4m Z9s
 by_cases hl : a.length = b.length
 ·have h0 : ((a.length : Int) != (b.length : Int)) = false := by simp [hl]
  rw [h0, cond_false, decide_eq_decide.2 (Yh hl)]
  refine Y11 (n := a.length) (fun j => decide (a[j]? = b[j]?)) (fun k i => Z47 N k a b i) (fun k => by simp [Z47, Z6k]) (fun k j hj => ?_) (by omega)
  have h1 : (j : Int) < (a.length : Int) := by omega
  have h2 : j < b.length := by omega
  simp only [Z47, Z6k, h1, decide_true, cond_true, Y0 hj, Y0 h2, grd_true, Y3 hj, Y3 h2, Y3p (h.2 _ (List.getElem_mem hj)) hN, Option.bind_some, Yx, Y1 (j := j) (by omega), List.getElem?_eq_getElem hj, List.getElem?_eq_getElem h2, Option.some.injEq]
 ·have h0 : ((a.length : Int) != (b.length : Int)) = true := by simp; omega
  rw [h0, cond_true]
  have : a ≠ b := fun h => hl (by rw [h])
  simp [this]
theorem Y3i {a : T_RelationS} {l : Int} (h : in_RelationS a) (h0 : 0 <= l) (h1 : l <= 1048576) (hN : 1048576 < N) : Z4h N a l = some (sub1 l (s_RelationS a)) := by
 have hlen := h.1
 unfold Z4h Z9m
 rw [Y5 (by omega) (by omega)]
 by_cases hc : (a.length : Int) <= l
 ·rw [decide_eq_false (by omega), cond_false]
  rw [szL (a := a) (s := s_Relation) (g := fun x l => Z42 N x l) (f := fun k l i => Z44 N k a l i) (fun x hx l h0 h1 => Y3q (h.2 x hx) h0 h1 hN) (fun k l => by simp [Z44, Z69]) (fun k l j hj => by
    have h2 : (j : Int) < (a.length : Int) := by omega
    simp only [Z44, Z69, h2, decide_true, cond_true, Y0 hj, grd_true, Y3 hj, Y1 (j := j) (by omega)]) (by omega) (by omega) (by omega)]
  unfold s_RelationS sumL sub1
  congr 1
  split <;> split <;> omega
 ·rw [decide_eq_true (by omega), cond_true]
  unfold s_RelationS sumL sub1
  rw [if_neg (by omega)]
def me_RelationS (N : Nat) (x : T_Relation) (k : Int) : T_Relation := (mkTx N (k), (k + 1), (k + 1 + 1))
def ce_RelationS (x : T_Relation) : Nat := 1 + 1 + 1
def mk_RelationS (N : Nat) (a : T_RelationS) (k : Int) : T_RelationS := mkL ce_RelationS (me_RelationS N) a k
def c_RelationS (a : T_RelationS) : Nat := costL ce_RelationS a
theorem Y3j (a : T_RelationS) : c_RelationS a <= 8 * s_RelationS a := Y12 (c := ce_RelationS) (fun x => by unfold ce_RelationS s_Relation; omega) a
theorem Y3k (hm : MtOk N) {a : T_RelationS} {k : Int} (h : b_RelationS a) (h0 : 0 <= k) (h1 : k + (c_RelationS a : Int) <= 4611686018427387904) (hN : 1048576 < N) : Z3h N a k = some (mk_RelationS N a k, k + (c_RelationS a : Int)) := by
 have hla : a.length <= 1048576 := h.1
 unfold Z3h Z99
 refine Y2r (P := fun y => b_Relation y) (f := fun k a2 k2 i => Z38 N k a2 k2 i) (fun k a2 k2 j hj => by subst hj; simp [Z38, Z5f]) (fun k a2 k2 j h1 hy h0 hc hl => ?_) h.2 h0 h1 (by omega) (by omega)
 have h2 : (j : Int) < (a2.length : Int) := by omega
 simp only [ce_RelationS, Int.natCast_add, Int.cast_ofNat_Int, Int.natCast_one] at hc
 simp (disch := first | assumption | omega) only [Z38, Z5f, h2, decide_true, cond_true, Y0 h1, Y18, grd_true, Yr, letv_eq, Y3 h1, Y1s, Y19, Int.toNat_natCast, Y1a, Y1, Option.bind_some, Y82 hm, Option.bind_some]
 simp only [ce_RelationS, me_RelationS, Int.natCast_add, Int.cast_ofNat_Int, Int.natCast_one, Int.add_assoc]
abbrev T_Fact := Int × List Int
def in_Fact (x : T_Fact) : Prop := in_int x.1 /\ in_IntS x.2
def s_Fact (x : T_Fact) : Nat := s_IntS x.2
def b_Fact (x : T_Fact) : Prop := b_IntS x.2
theorem Y5g {x : T_Fact} (h : s_Fact x <= 1048576) : b_Fact x := Y1t (by unfold s_Fact at h; omega)
theorem Y6r {x : T_Fact} (h : b_Fact x) (hN : 1048576 < N) : Z83 N x = some x := by
 simp [Z83, Y2f h hN]
theorem Y6s {x y : T_Fact} (h : b_Fact x) (hN : 1048576 < N) : Z8e N x y = some (decide (x = y)) := by
 simp only [Z8e, bneI, bneB, beqB, Y17, Y1h h hN, Option.bind_some]
 obtain ⟨x0, x1⟩ := x
 obtain ⟨y0, y1⟩ := y
 simp only [Prod.mk.injEq]
 by_cases e0 : x0 = y0 <;>
 by_cases e1 : x1 = y1 <;> simp [e0, e1]
theorem Y6t {x : T_Fact} {l : Int} (h : in_Fact x) (h0 : 0 <= l) (h1 : l <= 1048576) (hN : 1048576 < N) : Z6y N x l = some (sub1 l (s_Fact x)) := by
 unfold Z6y s_Fact
 rw [Y2g (l := l) h.2 (by omega) (by omega) hN, Option.bind_some]
 unfold sub1
 split
 ·rw [decide_eq_false (by omega)]; rfl
 ·rfl
abbrev T_FactS := List T_Fact
def in_FactS (a : T_FactS) : Prop := a.length <= 9223372036854775807 /\ ∀ y ∈ a, in_Fact y
def s_FactS (a : T_FactS) : Nat := sumL s_Fact a
def b_FactS (a : T_FactS) : Prop := a.length <= 1048576 /\ ∀ y ∈ a, b_Fact y
theorem Y4z {a : T_FactS} (h : s_FactS a <= 1048576) : b_FactS a := ⟨(Y2c h), fun y hy => Y5g (Nat.le_trans (Y2d hy) h)⟩
theorem Y5h {a : T_FactS} (h : b_FactS a) (hN : 1048576 < N) : Z75 N a = some a := by
 have hl : a.length <= 1048576 := h.1
 unfold Z75 Z0af
 rw [Ys (by omega), grd_true]
 refine fill (b := a) (fun k out i => Z6d N k a out i) (fun k out => by simp [Z6d, Z8i]) (fun k out j h1 h3 => ?_) (by omega) (by simp)
 have h2 : j < out.length := by omega
 have hj : (j : Int) < (a.length : Int) := by omega
 simp [Z6d, Z8i, hj, Y0 h1, Y0 h2, Y3 h1, Y6r (h.2 _ (List.getElem_mem h1)) hN, Y1 (j := j) (by omega)]
theorem Y5i {a b : T_FactS} (h : b_FactS a) (hN : 1048576 < N) : Z7f N a b = some (decide (a = b)) := by
 have hla : a.length <= 1048576 := h.1
 unfold Z7f Z0am
 by_cases hl : a.length = b.length
 ·have h0 : ((a.length : Int) != (b.length : Int)) = false := by simp [hl]
  rw [h0, cond_false, decide_eq_decide.2 (Yh hl)]
  refine Y11 (n := a.length) (fun j => decide (a[j]? = b[j]?)) (fun k i => Z6l N k a b i) (fun k => by simp [Z6l, Z8m]) (fun k j hj => ?_) (by omega)
  have h1 : (j : Int) < (a.length : Int) := by omega
  have h2 : j < b.length := by omega
  simp only [Z6l, Z8m, h1, decide_true, cond_true, Y0 hj, Y0 h2, grd_true, Y3 hj, Y3 h2, Y6s (h.2 _ (List.getElem_mem hj)) hN, Option.bind_some, Yx, Y1 (j := j) (by omega), List.getElem?_eq_getElem hj, List.getElem?_eq_getElem h2, Option.some.injEq]
 ·have h0 : ((a.length : Int) != (b.length : Int)) = true := by simp; omega
  rw [h0, cond_true]
  have : a ≠ b := fun h => hl (by rw [h])
  simp [this]
theorem Y5j {a : T_FactS} {l : Int} (h : in_FactS a) (h0 : 0 <= l) (h1 : l <= 1048576) (hN : 1048576 < N) : Z72 N a l = some (sub1 l (s_FactS a)) := by
 have hlen := h.1
 unfold Z72 Z0ad
 rw [Y5 (by omega) (by omega)]
 by_cases hc : (a.length : Int) <= l
 ·rw [decide_eq_false (by omega), cond_false]
  rw [szL (a := a) (s := s_Fact) (g := fun x l => Z6y N x l) (f := fun k l i => Z6a N k a l i) (fun x hx l h0 h1 => Y6t (h.2 x hx) h0 h1 hN) (fun k l => by simp [Z6a, Z8g]) (fun k l j hj => by
    have h2 : (j : Int) < (a.length : Int) := by omega
    simp only [Z6a, Z8g, h2, decide_true, cond_true, Y0 hj, grd_true, Y3 hj, Y1 (j := j) (by omega)]) (by omega) (by omega) (by omega)]
  unfold s_FactS sumL sub1
  congr 1
  split <;> split <;> omega
 ·rw [decide_eq_true (by omega), cond_true]
  unfold s_FactS sumL sub1
  rw [if_neg (by omega)]
def me_FactS (N : Nat) (x : T_Fact) (k : Int) : T_Fact := ((k), mk_IntS N x.2 (k + 1))
def ce_FactS (x : T_Fact) : Nat := 1 + c_IntS x.2
def mk_FactS (N : Nat) (a : T_FactS) (k : Int) : T_FactS := mkL ce_FactS (me_FactS N) a k
def c_FactS (a : T_FactS) : Nat := costL ce_FactS a
theorem Y5k (a : T_FactS) : c_FactS a <= 8 * s_FactS a := Y12 (c := ce_FactS) (fun x => by have h0 := Y2h x.2; unfold ce_FactS s_Fact; omega) a
theorem Y5l {a : T_FactS} {k : Int} (h : b_FactS a) (h0 : 0 <= k) (h1 : k + (c_FactS a : Int) <= 4611686018427387904) (hN : 1048576 < N) : Z5q N a k = some (mk_FactS N a k, k + (c_FactS a : Int)) := by
 have hla : a.length <= 1048576 := h.1
 unfold Z5q Z0a1
 refine Y2r (P := fun y => b_Fact y) (f := fun k a2 k2 i => Z56 N k a2 k2 i) (fun k a2 k2 j hj => by subst hj; simp [Z56, Z7j]) (fun k a2 k2 j h1 hy h0 hc hl => ?_) h.2 h0 h1 (by omega) (by omega)
 have h2 : (j : Int) < (a2.length : Int) := by omega
 have hy0 : b_IntS a2[j].2 := hy
 simp only [ce_FactS, Int.natCast_add, Int.cast_ofNat_Int, Int.natCast_one] at hc
 simp (disch := first | assumption | omega) only [Z56, Z7j, h2, decide_true, cond_true, Y0 h1, Y18, grd_true, Yr, letv_eq, Y3 h1, Y1s, Y19, Int.toNat_natCast, Y1a, Y1, Option.bind_some, Y1i]
 simp only [ce_FactS, me_FactS, Int.natCast_add, Int.cast_ofNat_Int, Int.natCast_one, Int.add_assoc]
abbrev T_Database := (List (ByteArray × Int × Int)) × List (Int × List Int)
def in_Database (x : T_Database) : Prop := in_RelationS x.1 /\ in_FactS x.2
def s_Database (x : T_Database) : Nat := s_RelationS x.1 + s_FactS x.2
def b_Database (x : T_Database) : Prop := b_RelationS x.1 /\ b_FactS x.2
theorem Y3l {x : T_Database} (h : s_Database x <= 1048576) : b_Database x := ⟨Y2w (by unfold s_Database at h; omega), Y4z (by unfold s_Database at h; omega)⟩
theorem Y3r {x : T_Database} (h : b_Database x) (hN : 1048576 < N) : Z2b N x = some x := by
 simp [Z2b, Y3g h.1 hN, Y5h h.2 hN]
theorem Y3s {x y : T_Database} (h : b_Database x) (hN : 1048576 < N) : Z52 N x y = some (decide (x = y)) := by
 simp only [Z52, bneI, bneB, beqB, Y17, Y3h h.1 hN, Y5i h.2 hN, Option.bind_some]
 obtain ⟨x0, x1⟩ := x
 obtain ⟨y0, y1⟩ := y
 simp only [Prod.mk.injEq]
 by_cases e0 : x0 = y0 <;>
 by_cases e1 : x1 = y1 <;> simp [e0, e1]
theorem Y3t {x : T_Database} {l : Int} (h : in_Database x) (h0 : 0 <= l) (h1 : l <= 1048576) (hN : 1048576 < N) : Z4u N x l = some (sub1 l (s_Database x)) := by
 unfold Z4u s_Database
 rw [Y3i (l := l) h.1 (by omega) (by omega) hN, Option.bind_some]
 by_cases c0 : (s_RelationS x.1 : Int) <= l
 case neg => rw [Y9 c0]; rw [Y9 (by omega)]; rfl
 rw [Yd c0, decide_eq_false (show ¬ l - (s_RelationS x.1 : Int) < 0 by omega), cond_false]
 rw [Y5j (l := (l - (s_RelationS x.1 : Int))) h.2 (by omega) (by omega) hN, Option.bind_some]
 by_cases c1 : (s_FactS x.2 : Int) <= (l - (s_RelationS x.1 : Int))
 case neg => rw [Y9 c1]; rw [Y9 (by omega)]; rfl
 rw [Yd c1, decide_eq_false (show ¬ (l - (s_RelationS x.1 : Int)) - (s_FactS x.2 : Int) < 0 by omega), cond_false]
 rw [Yd (by omega)]; congr 1; omega
def mk_Database (N : Nat) (x : T_Database) (k : Int) : T_Database := (mk_RelationS N x.1 (k), mk_FactS N x.2 (k + (c_RelationS x.1 : Int)))
def c_Database (x : T_Database) : Nat := c_RelationS x.1 + c_FactS x.2
theorem Y3u (x : T_Database) : c_Database x <= 8 * s_Database x := by have h0 := Y3j x.1; have h1 := Y5k x.2; unfold c_Database s_Database; omega
theorem Y3v (hm : MtOk N) {x : T_Database} {k : Int} (h : b_Database x) (h0 : 0 <= k) (h1 : k + (c_Database x : Int) <= 4611686018427387904) (hN : 1048576 < N) : Z2u N x k = some (mk_Database N x k, k + (c_Database x : Int)) := by
 have hb0 : b_RelationS x.1 := h.1
 have hb1 : b_FactS x.2 := h.2
 simp only [c_Database, Int.natCast_add] at h1
 simp (disch := first | assumption | omega) only [Z2u, Option.bind_some, Y3k hm, Y5l]
 simp only [mk_Database, c_Database, Int.natCast_add, Int.add_assoc]
abbrev T_DenialConstraint := Int × Int × Int × Int × Int × Int × Int
noncomputable instance dec_DenialConstraint : DecidableEq T_DenialConstraint := fun _ _ => Classical.propDecidable _
def in_DenialConstraint (x : T_DenialConstraint) : Prop := in_int x.1 /\ in_int x.2.1 /\ in_int x.2.2.1 /\ in_int x.2.2.2.1 /\ in_int x.2.2.2.2.1 /\ in_int x.2.2.2.2.2.1 /\ in_int x.2.2.2.2.2.2
theorem Y1j (x : T_DenialConstraint) (hN : 1048576 < N) : Z2e N x = some x := rfl
theorem Y1k {x y : T_DenialConstraint} (hN : 1048576 < N) : Z1l N x y = some (decide (x = y)) := by
 simp only [Z1l, bneI, bneB, beqB, Y17, Option.bind_some]
 obtain ⟨x0, x1, x2, x3, x4, x5, x6⟩ := x
 obtain ⟨y0, y1, y2, y3, y4, y5, y6⟩ := y
 simp only [Prod.mk.injEq]
 by_cases e0 : x0 = y0 <;>
 by_cases e1 : x1 = y1 <;>
 by_cases e2 : x2 = y2 <;>
 by_cases e3 : x3 = y3 <;>
 by_cases e4 : x4 = y4 <;>
 by_cases e5 : x5 = y5 <;>
 by_cases e6 : x6 = y6 <;> simp [e0, e1, e2, e3, e4, e5, e6]
abbrev T_DenialConstraintS := List T_DenialConstraint
def in_DenialConstraintS (a : T_DenialConstraintS) : Prop := a.length <= 9223372036854775807 /\ ∀ y ∈ a, in_DenialConstraint y
def s_DenialConstraintS (a : T_DenialConstraintS) : Nat := a.length
def b_DenialConstraintS (a : T_DenialConstraintS) : Prop := a.length <= 1048576
theorem Y15 {a : T_DenialConstraintS} (h : s_DenialConstraintS a <= 1048576) : b_DenialConstraintS a := h
theorem Y1b {a : T_DenialConstraintS} (h : b_DenialConstraintS a) (hN : 1048576 < N) : Z0h N a = some a := by
 have hl : a.length <= 1048576 := h
 unfold Z0h Z6n
 rw [Ys (by omega), grd_true]
 refine fill (b := a) (fun k out i => Z1d N k a out i) (fun k out => by simp [Z1d, Z39]) (fun k out j h1 h3 => ?_) (by omega) (by simp)
 have h2 : j < out.length := by omega
 have hj : (j : Int) < (a.length : Int) := by omega
 simp [Z1d, Z39, hj, Y0 h1, Y0 h2, Y3 h1, Y1j _ hN, Y1 (j := j) (by omega)]
theorem Y1c {a b : T_DenialConstraintS} (h : b_DenialConstraintS a) (hN : 1048576 < N) : Z1c N a b = some (decide (a = b)) := by
 have hla : a.length <= 1048576 := h
 unfold Z1c Z6q
 by_cases hl : a.length = b.length
 ·have h0 : ((a.length : Int) != (b.length : Int)) = false := by simp [hl]
  rw [h0, cond_false, decide_eq_decide.2 (Yh hl)]
  refine Y11 (n := a.length) (fun j => decide (a[j]? = b[j]?)) (fun k i => Z1h N k a b i) (fun k => by simp [Z1h, Z3a]) (fun k j hj => ?_) (by omega)
  have h1 : (j : Int) < (a.length : Int) := by omega
  have h2 : j < b.length := by omega
  simp only [Z1h, Z3a, h1, decide_true, cond_true, Y0 hj, Y0 h2, grd_true, Y3 hj, Y3 h2, Y1k  hN, Option.bind_some, Yx, Y1 (j := j) (by omega), List.getElem?_eq_getElem hj, List.getElem?_eq_getElem h2, Option.some.injEq]
 ·have h0 : ((a.length : Int) != (b.length : Int)) = true := by simp; omega
  rw [h0, cond_true]
  have : a ≠ b := fun h => hl (by rw [h])
  simp [this]
theorem Y1d {a : T_DenialConstraintS} {l : Int} (h : in_DenialConstraintS a) (h0 : 0 <= l) (h1 : l <= 1048576) (hN : 1048576 < N) : Z1b N a l = some (sub1 l (s_DenialConstraintS a)) := by
 have := h.1
 unfold Z1b s_DenialConstraintS sub1
 rw [Y5 (by omega) (by omega)]
 by_cases h : (a.length : Int) <= l
 ·rw [if_pos h, decide_eq_false (by omega)]; rfl
 ·rw [if_neg h, decide_eq_true (by omega)]; rfl
def me_DenialConstraintS (N : Nat) (x : T_DenialConstraint) (k : Int) : T_DenialConstraint := ((k), (k + 1), (k + 1 + 1), (k + 1 + 1 + 1), (k + 1 + 1 + 1 + 1), (k + 1 + 1 + 1 + 1 + 1), (k + 1 + 1 + 1 + 1 + 1 + 1))
def ce_DenialConstraintS (x : T_DenialConstraint) : Nat := 1 + 1 + 1 + 1 + 1 + 1 + 1
def mk_DenialConstraintS (N : Nat) (a : T_DenialConstraintS) (k : Int) : T_DenialConstraintS := mkL ce_DenialConstraintS (me_DenialConstraintS N) a k
def c_DenialConstraintS (a : T_DenialConstraintS) : Nat := costL ce_DenialConstraintS a
theorem Y1e (a : T_DenialConstraintS) : c_DenialConstraintS a <= 8 * s_DenialConstraintS a := Y2e (c := ce_DenialConstraintS) (fun x => by unfold ce_DenialConstraintS; omega) a
theorem Y1f {a : T_DenialConstraintS} {k : Int} (h : b_DenialConstraintS a) (h0 : 0 <= k) (h1 : k + (c_DenialConstraintS a : Int) <= 4611686018427387904) (hN : 1048576 < N) : Z12 N a k = some (mk_DenialConstraintS N a k, k + (c_DenialConstraintS a : Int)) := by
 have hla : a.length <= 1048576 := h
 unfold Z12 Z5r
 refine Y2r (P := fun y => True) (f := fun k a2 k2 i => Z15 N k a2 k2 i) (fun k a2 k2 j hj => by subst hj; simp [Z15, Z2s]) (fun k a2 k2 j h1 hy h0 hc hl => ?_) (fun _ _ => trivial) h0 h1 (by omega) (by omega)
 have h2 : (j : Int) < (a2.length : Int) := by omega
 simp only [ce_DenialConstraintS, Int.natCast_add, Int.cast_ofNat_Int, Int.natCast_one] at hc
 simp (disch := first | assumption | omega) only [Z15, Z2s, h2, decide_true, cond_true, Y0 h1, Y18, grd_true, Yr, letv_eq, Y3 h1, Y1s, Y19, Int.toNat_natCast, Y1a, Y1, Option.bind_some, Option.bind_some]
 simp only [ce_DenialConstraintS, me_DenialConstraintS, Int.natCast_add, Int.cast_ofNat_Int, Int.natCast_one, Int.add_assoc]
abbrev T_Atom := Int × List Int
def in_Atom (x : T_Atom) : Prop := in_int x.1 /\ in_IntS x.2
def s_Atom (x : T_Atom) : Nat := s_IntS x.2
def b_Atom (x : T_Atom) : Prop := b_IntS x.2
theorem Y5m {x : T_Atom} (h : s_Atom x <= 1048576) : b_Atom x := Y1t (by unfold s_Atom at h; omega)
theorem Y6u {x : T_Atom} (h : b_Atom x) (hN : 1048576 < N) : Z84 N x = some x := by
 simp [Z84, Y2f h hN]
theorem Y6v {x y : T_Atom} (h : b_Atom x) (hN : 1048576 < N) : Z8f N x y = some (decide (x = y)) := by
 simp only [Z8f, bneI, bneB, beqB, Y17, Y1h h hN, Option.bind_some]
 obtain ⟨x0, x1⟩ := x
 obtain ⟨y0, y1⟩ := y
 simp only [Prod.mk.injEq]
 by_cases e0 : x0 = y0 <;>
 by_cases e1 : x1 = y1 <;> simp [e0, e1]
theorem Y6w {x : T_Atom} {l : Int} (h : in_Atom x) (h0 : 0 <= l) (h1 : l <= 1048576) (hN : 1048576 < N) : Z6z N x l = some (sub1 l (s_Atom x)) := by
 unfold Z6z s_Atom
 rw [Y2g (l := l) h.2 (by omega) (by omega) hN, Option.bind_some]
 unfold sub1
 split
 ·rw [decide_eq_false (by omega)]; rfl
 ·rfl
abbrev T_AtomS := List T_Atom
def in_AtomS (a : T_AtomS) : Prop := a.length <= 9223372036854775807 /\ ∀ y ∈ a, in_Atom y
def s_AtomS (a : T_AtomS) : Nat := sumL s_Atom a
def b_AtomS (a : T_AtomS) : Prop := a.length <= 1048576 /\ ∀ y ∈ a, b_Atom y
theorem Y50 {a : T_AtomS} (h : s_AtomS a <= 1048576) : b_AtomS a := ⟨(Y2c h), fun y hy => Y5m (Nat.le_trans (Y2d hy) h)⟩
theorem Y5n {a : T_AtomS} (h : b_AtomS a) (hN : 1048576 < N) : Z76 N a = some a := by
 have hl : a.length <= 1048576 := h.1
 unfold Z76 Z0ah
 rw [Ys (by omega), grd_true]
 refine fill (b := a) (fun k out i => Z6e N k a out i) (fun k out => by simp [Z6e, Z8j]) (fun k out j h1 h3 => ?_) (by omega) (by simp)
 have h2 : j < out.length := by omega
 have hj : (j : Int) < (a.length : Int) := by omega
 simp [Z6e, Z8j, hj, Y0 h1, Y0 h2, Y3 h1, Y6u (h.2 _ (List.getElem_mem h1)) hN, Y1 (j := j) (by omega)]
theorem Y5o {a b : T_AtomS} (h : b_AtomS a) (hN : 1048576 < N) : Z7g N a b = some (decide (a = b)) := by
 have hla : a.length <= 1048576 := h.1
 unfold Z7g Z0ao
 by_cases hl : a.length = b.length
 ·have h0 : ((a.length : Int) != (b.length : Int)) = false := by simp [hl]
  rw [h0, cond_false, decide_eq_decide.2 (Yh hl)]
  refine Y11 (n := a.length) (fun j => decide (a[j]? = b[j]?)) (fun k i => Z6m N k a b i) (fun k => by simp [Z6m, Z8n]) (fun k j hj => ?_) (by omega)
  have h1 : (j : Int) < (a.length : Int) := by omega
  have h2 : j < b.length := by omega
  simp only [Z6m, Z8n, h1, decide_true, cond_true, Y0 hj, Y0 h2, grd_true, Y3 hj, Y3 h2, Y6v (h.2 _ (List.getElem_mem hj)) hN, Option.bind_some, Yx, Y1 (j := j) (by omega), List.getElem?_eq_getElem hj, List.getElem?_eq_getElem h2, Option.some.injEq]
 ·have h0 : ((a.length : Int) != (b.length : Int)) = true := by simp; omega
  rw [h0, cond_true]
  have : a ≠ b := fun h => hl (by rw [h])
  simp [this]
theorem Y5p {a : T_AtomS} {l : Int} (h : in_AtomS a) (h0 : 0 <= l) (h1 : l <= 1048576) (hN : 1048576 < N) : Z73 N a l = some (sub1 l (s_AtomS a)) := by
 have hlen := h.1
 unfold Z73 Z0ae
 rw [Y5 (by omega) (by omega)]
 by_cases hc : (a.length : Int) <= l
 ·rw [decide_eq_false (by omega), cond_false]
  rw [szL (a := a) (s := s_Atom) (g := fun x l => Z6z N x l) (f := fun k l i => Z6b N k a l i) (fun x hx l h0 h1 => Y6w (h.2 x hx) h0 h1 hN) (fun k l => by simp [Z6b, Z8h]) (fun k l j hj => by
    have h2 : (j : Int) < (a.length : Int) := by omega
    simp only [Z6b, Z8h, h2, decide_true, cond_true, Y0 hj, grd_true, Y3 hj, Y1 (j := j) (by omega)]) (by omega) (by omega) (by omega)]
  unfold s_AtomS sumL sub1
  congr 1
  split <;> split <;> omega
 ·rw [decide_eq_true (by omega), cond_true]
  unfold s_AtomS sumL sub1
  rw [if_neg (by omega)]
def me_AtomS (N : Nat) (x : T_Atom) (k : Int) : T_Atom := ((k), mk_IntS N x.2 (k + 1))
def ce_AtomS (x : T_Atom) : Nat := 1 + c_IntS x.2
def mk_AtomS (N : Nat) (a : T_AtomS) (k : Int) : T_AtomS := mkL ce_AtomS (me_AtomS N) a k
def c_AtomS (a : T_AtomS) : Nat := costL ce_AtomS a
theorem Y5q (a : T_AtomS) : c_AtomS a <= 8 * s_AtomS a := Y12 (c := ce_AtomS) (fun x => by have h0 := Y2h x.2; unfold ce_AtomS s_Atom; omega) a
theorem Y5r {a : T_AtomS} {k : Int} (h : b_AtomS a) (h0 : 0 <= k) (h1 : k + (c_AtomS a : Int) <= 4611686018427387904) (hN : 1048576 < N) : Z5s N a k = some (mk_AtomS N a k, k + (c_AtomS a : Int)) := by
 have hla : a.length <= 1048576 := h.1
 unfold Z5s Z0a2
 refine Y2r (P := fun y => b_Atom y) (f := fun k a2 k2 i => Z57 N k a2 k2 i) (fun k a2 k2 j hj => by subst hj; simp [Z57, Z7k]) (fun k a2 k2 j h1 hy h0 hc hl => ?_) h.2 h0 h1 (by omega) (by omega)
 have h2 : (j : Int) < (a2.length : Int) := by omega
 have hy0 : b_IntS a2[j].2 := hy
 simp only [ce_AtomS, Int.natCast_add, Int.cast_ofNat_Int, Int.natCast_one] at hc
 simp (disch := first | assumption | omega) only [Z57, Z7k, h2, decide_true, cond_true, Y0 h1, Y18, grd_true, Yr, letv_eq, Y3 h1, Y1s, Y19, Int.toNat_natCast, Y1a, Y1, Option.bind_some, Y1i]
 simp only [ce_AtomS, me_AtomS, Int.natCast_add, Int.cast_ofNat_Int, Int.natCast_one, Int.add_assoc]
abbrev T_Query := Int × (List (Int × List Int)) × List Int
def in_Query (x : T_Query) : Prop := in_int x.1 /\ in_AtomS x.2.1 /\ in_IntS x.2.2
def s_Query (x : T_Query) : Nat := s_AtomS x.2.1 + s_IntS x.2.2
def b_Query (x : T_Query) : Prop := b_AtomS x.2.1 /\ b_IntS x.2.2
theorem Y51 {x : T_Query} (h : s_Query x <= 1048576) : b_Query x := ⟨Y50 (by unfold s_Query at h; omega), Y1t (by unfold s_Query at h; omega)⟩
theorem Y5s {x : T_Query} (h : b_Query x) (hN : 1048576 < N) : Z4a N x = some x := by
 simp [Z4a, Y5n h.1 hN, Y2f h.2 hN]
theorem Y5t {x y : T_Query} (h : b_Query x) (hN : 1048576 < N) : Z7h N x y = some (decide (x = y)) := by
 simp only [Z7h, bneI, bneB, beqB, Y17, Y5o h.1 hN, Y1h h.2 hN, Option.bind_some]
 obtain ⟨x0, x1, x2⟩ := x
 obtain ⟨y0, y1, y2⟩ := y
 simp only [Prod.mk.injEq]
 by_cases e0 : x0 = y0 <;>
 by_cases e1 : x1 = y1 <;>
 by_cases e2 : x2 = y2 <;> simp [e0, e1, e2]
theorem Y5u {x : T_Query} {l : Int} (h : in_Query x) (h0 : 0 <= l) (h1 : l <= 1048576) (hN : 1048576 < N) : Z74 N x l = some (sub1 l (s_Query x)) := by
 unfold Z74 s_Query
 rw [Y5p (l := l) h.2.1 (by omega) (by omega) hN, Option.bind_some]
 by_cases c0 : (s_AtomS x.2.1 : Int) <= l
 case neg => rw [Y9 c0]; rw [Y9 (by omega)]; rfl
 rw [Yd c0, decide_eq_false (show ¬ l - (s_AtomS x.2.1 : Int) < 0 by omega), cond_false]
 rw [Y2g (l := (l - (s_AtomS x.2.1 : Int))) h.2.2 (by omega) (by omega) hN, Option.bind_some]
 by_cases c1 : (s_IntS x.2.2 : Int) <= (l - (s_AtomS x.2.1 : Int))
 case neg => rw [Y9 c1]; rw [Y9 (by omega)]; rfl
 rw [Yd c1, decide_eq_false (show ¬ (l - (s_AtomS x.2.1 : Int)) - (s_IntS x.2.2 : Int) < 0 by omega), cond_false]
 rw [Yd (by omega)]; congr 1; omega
def mk_Query (N : Nat) (x : T_Query) (k : Int) : T_Query := (x.1, mk_AtomS N x.2.1 (k), mk_IntS N x.2.2 (k + (c_AtomS x.2.1 : Int)))
def c_Query (x : T_Query) : Nat := c_AtomS x.2.1 + c_IntS x.2.2
theorem Y5v (x : T_Query) : c_Query x <= 8 * s_Query x := by have h0 := Y5q x.2.1; have h1 := Y2h x.2.2; unfold c_Query s_Query; omega
theorem Y5w {x : T_Query} {k : Int} (h : b_Query x) (h0 : 0 <= k) (h1 : k + (c_Query x : Int) <= 4611686018427387904) (hN : 1048576 < N) : Z4r N x k = some (mk_Query N x k, k + (c_Query x : Int)) := by
 have hb0 : b_AtomS x.2.1 := h.1
 have hb1 : b_IntS x.2.2 := h.2
 simp only [c_Query, Int.natCast_add] at h1
 simp (disch := first | assumption | omega) only [Z4r, Option.bind_some, Y5r, Y1i]
 simp only [mk_Query, c_Query, Int.natCast_add, Int.add_assoc]
theorem Y3w {α : Type} {s x : List α} {b : Nat} (h : (s.length + x.length) * b <= 140737488355328) : appOk s x b = true := decide_eq_true h
theorem Yg {α β : Type} {piece : α -> List β} {n : Nat} : ∀ {a : List α}, (∀ x ∈ a, (piece x).length <= n) -> (a.flatMap piece).length <= a.length * n
 | [], _ => by simp
 | x :: a, h => by
  have h1 := h x (by simp)
  have h2 := Yg (a := a) fun y hy => h y (by simp [hy])
  rw [List.flatMap_cons, List.length_append, List.length_cons, Nat.add_mul]; omega
theorem Y5x (a : List Int) : c_IntS a = a.length := by
 unfold c_IntS costL
 have : ce_IntS = fun _ => 1 := rfl
 rw [this]
 induction a with
 | nil => rfl
 | cons x a ih => simp only [List.map_cons, List.sum_cons, List.length_cons, ih]; omega
abbrev Rel := ByteArray × Int × Int
abbrev Fact := Int × List Int
abbrev Db := List Rel × List Fact
structure SmallDb (d : Db) : Prop where
 rels : d.1.length <= 1048576
 facts : d.2.length <= 1048576
 vals : ∀ f ∈ d.2, f.2.length <= 1048576
theorem Y4h {α : Type} [DecidableEq α] {a b : List α} (h : a.length = b.length) : (a = b) ↔ ∀ j, j < a.length -> (decide (a[j]? = b[j]?)) = true := by
 constructor
 ·rintro rfl j _; simp
 ·intro h2
  apply List.ext_getElem? 
  intro j
  by_cases hj : j < a.length
  ·simpa using h2 j hj
  ·rw [List.getElem?_eq_none (by omega), List.getElem?_eq_none (by omega)]
theorem l1In (N : Nat) (x a b : Int) : Z6 N x a b = some (decide (a <= x /\ x <= b)) := by
 unfold Z6
 by_cases h : a <= x <;> simp [h]
theorem Yf (N : Nat) (x a b : Int) : Z4 N x a b = some (decide (a <= x /\ x <= b)) := by
 unfold Z4
 by_cases h : a <= x <;> simp [h]
def validRel (r : Rel) : Bool := (Z9 0 r).getD false
theorem Y2x (N : Nat) (r : Rel) : Z9 N r = some (validRel r) := by
 have key : ∃ b, Z9 0 r = some b := by
  unfold Z9
  by_cases h : r.1.size = 1
  ·have hb : ∃ b, byteAt r.1 0 = some b := by
    unfold byteAt
    have : (0 : Int).toNat < r.1.size := by omega
    exact ⟨r.1[(0 : Int).toNat], by rw [if_pos (by omega), getElem?_pos]⟩
   obtain ⟨b, hb⟩ := hb
   rw [hb]
   simp only [Option.bind_some, l1In]
   cases ((r.1.size : Int) == 1) with
   | false => exact ⟨_, rfl⟩
   | true =>
    cases decide ((b.toNat : Int) >= 97) with
    | false => exact ⟨_, rfl⟩
    | true =>
     cases decide ((b.toNat : Int) <= 122) with
     | false => exact ⟨_, rfl⟩
     | true =>
      cases decide (1 <= r.2.1 /\ r.2.1 <= 3) with
      | false => exact ⟨_, rfl⟩
      | true => exact ⟨_, rfl⟩
  ·have h0 : ((r.1.size : Int) == 1) = false := by rw [beqI]; simp; omega
   rw [h0]; exact ⟨false, rfl⟩
 obtain ⟨b, hb⟩ := key
 have e : Z9 N r = Z9 0 r := by
  unfold Z9; simp only [l1In]
 rw [e, validRel, hb]; rfl
theorem Y7n (N : Nat) (r : Rel) : Z2l N r = some (validRel r) := by
 rw [<- Y2x N r]
 unfold Z2l Z9
 simp only [l1In, Yf]
def validRels (l : List Rel) : Bool := decide ((∀ j, j < l.length -> (validRel (l.getD j (⟨#[]⟩, 0, 0)) && (decide (j = 0) || slt (l.getD (j - 1) (⟨#[]⟩, 0, 0)).1 (l.getD j (⟨#[]⟩, 0, 0)).1)) = true) /\ l.length <= 4)
theorem Y2 {α : Type} {d : α} {j : Nat} {xs : List α} (h : j < xs.length) : xs.getD j d = xs[j] := by simp [h]
theorem Y1l {l : List Rel} (hl : l.length <= 1048576) (hN : 1048576 < N) : Z0f N l = some (validRels l) := by
 unfold Z0f Z4w
 rw [Y7 (n := l.length) (fun j => validRel (l.getD j (⟨#[]⟩, 0, 0)) && (decide (j = 0) || slt (l.getD (j - 1) (⟨#[]⟩, 0, 0)).1 (l.getD j (⟨#[]⟩, 0, 0)).1)) (some false) (some (decide (l.length <= 4))) (fun k i => Z0l N k l i)
  (fun k => by simp [Z0l, Z1e]; omega) (fun k j hj => ?_) (by omega)]
 ·unfold validRels
  by_cases h : ∀ j, j < l.length -> (validRel (l.getD j (⟨#[]⟩, 0, 0)) && (decide (j = 0) || slt (l.getD (j - 1) (⟨#[]⟩, 0, 0)).1 (l.getD j (⟨#[]⟩, 0, 0)).1)) = true
  ·rw [if_pos h]; congr 1; exact decide_eq_decide.2 ⟨fun h2 => ⟨h, h2⟩, fun h2 => h2.2⟩
  ·rw [if_neg h]; congr 1; symm; exact decide_eq_false fun h2 => h h2.1
 ·have h1 : (j : Int) < (l.length : Int) := by omega
  simp only [Z0l, Z1e, h1, decide_true, cond_true, Y0 hj, grd_true, Y3 hj, Y2x, Option.bind_some, Y2 hj, Y1 (j := j) (by omega)]
  cases validRel l[j] with
  | false => rfl
  | true =>
   simp only [Bool.not_true, cond_false, Bool.true_and]
   by_cases h0 : j = 0
   ·subst h0; simp
   ·have h3 : (j : Int) > 0 := by omega
    have h4 : j - 1 < l.length := by omega
    simp only [h3, decide_true, cond_true, Yc (show 0 < j by omega) (by omega), Y0 h4, grd_true, Y3 h4, h0, decide_false, Bool.false_or, Y2 h4]
    cases slt l[j - 1].1 l[j].1 <;> rfl
theorem Y3x {l : List Rel} (hl : l.length <= 1048576) (hN : 1048576 < N) : Z0r N l = some (validRels l) := by
 rw [<- Y1l hl hN]
 unfold Z0r Z7c Z0f Z4w
 rw [Y7 (n := l.length) (fun j => validRel (l.getD j (⟨#[]⟩, 0, 0)) && (decide (j = 0) || slt (l.getD (j - 1) (⟨#[]⟩, 0, 0)).1 (l.getD j (⟨#[]⟩, 0, 0)).1)) (some false) (some (decide (l.length <= 4))) (fun k i => Z0l N k l i)
  (fun k => by simp [Z0l, Z1e]; omega) (fun k j hj => ?_) (by omega),
  Y7 (n := l.length) (fun j => validRel (l.getD j (⟨#[]⟩, 0, 0)) && (decide (j = 0) || slt (l.getD (j - 1) (⟨#[]⟩, 0, 0)).1 (l.getD j (⟨#[]⟩, 0, 0)).1)) (some false) (some (decide (l.length <= 4))) (fun k i => Z23 N k l l (l.length : Int) i)
  (fun k => by simp [Z23, Z43]; omega) (fun k j hj => ?_) (by omega)]
 ·have h1 : (j : Int) < (l.length : Int) := by omega
  simp only [Z23, Z43, h1, decide_true, cond_true, Y0 hj, grd_true, Y3 hj, Y7n, Option.bind_some, Y2 hj, Y1 (j := j) (by omega)]
  cases validRel l[j] with
  | false => rfl
  | true =>
   simp only [Bool.not_true, cond_false, Bool.true_and]
   by_cases h0 : j = 0
   ·subst h0; simp
   ·have h3 : (j : Int) > 0 := by omega
    have h4 : j - 1 < l.length := by omega
    simp only [h3, decide_true, cond_true, Yc (show 0 < j by omega) (by omega), Y0 h4, grd_true, Y3 h4, h0, decide_false, Bool.false_or, Y2 h4]
    cases slt l[j - 1].1 l[j].1 <;> rfl
 ·have h1 : (j : Int) < (l.length : Int) := by omega
  simp only [Z0l, Z1e, h1, decide_true, cond_true, Y0 hj, grd_true, Y3 hj, Y2x, Option.bind_some, Y2 hj, Y1 (j := j) (by omega)]
  cases validRel l[j] with
  | false => rfl
  | true =>
   simp only [Bool.not_true, cond_false, Bool.true_and]
   by_cases h0 : j = 0
   ·subst h0; simp
   ·have h3 : (j : Int) > 0 := by omega
    have h4 : j - 1 < l.length := by omega
    simp only [h3, decide_true, cond_true, Yc (show 0 < j by omega) (by omega), Y0 h4, grd_true, Y3 h4, h0, decide_false, Bool.false_or, Y2 h4]
    cases slt l[j - 1].1 l[j].1 <;> rfl
def validVals (xs : List Int) : Bool := xs.all fun x => decide (0 <= x /\ x <= 9)
theorem Y2y {α : Type} {d : α} {xs : List α} {p : α -> Bool} : (∀ j, j < xs.length -> p (xs.getD j d) = true) ↔ xs.all p = true := by
 rw [List.all_eq_true]
 constructor
 ·intro h x hx
  obtain ⟨i, hi, rfl⟩ := List.mem_iff_getElem.1 hx
  have := h i hi
  rwa [Y2 hi] at this
 ·intro h j hj
  rw [Y2 hj]
  exact h _ (List.getElem_mem hj)
def fact1 (l : List Rel) (f : Fact) : Bool := decide (0 <= f.1 /\ f.1 <= (l.length : Int) - 1) && (decide ((f.2.length : Int) = (l.getD f.1.toNat (⟨#[]⟩, 0, 0)).2.1) && validVals f.2)
theorem Y1m {l : List Rel} {f : Fact} (hl : l.length <= 1048576) (hf : f.2.length <= 1048576) (hN : 1048576 < N) : Z10 N l f = some (validRels l && fact1 l f) := by
 obtain ⟨r, v⟩ := f
 unfold Z10 Z9o
 rw [Y1l hl hN, Option.bind_some]
 cases validRels l with
 | false => rfl
 | true =>
  simp only [Bool.not_true, cond_false, l1In, Option.bind_some, Bool.true_and, fact1]
  rw [Y5 (by omega) (by omega)]
  by_cases h : 0 <= r /\ r <= (l.length : Int) - 1
  ·have h2 : r.toNat < l.length := by omega
   simp only [h, and_self, decide_true, Bool.not_true, cond_false, Y8 h.1 (show r < l.length by omega), grd_true, Y5f h.1 (show r < l.length by omega), bneI, Y2 h2, Bool.true_and]
   by_cases h3 : (v.length : Int) = l[r.toNat].2.1
   ·simp only [h3, decide_true, Bool.not_true, cond_false, Bool.true_and]
    rw [Y7 (n := v.length) (fun j => decide (0 <= v.getD j 0 /\ v.getD j 0 <= 9)) (some false) (some true) (fun k i => Z46 N k r v i) (fun k => by simp [Z46, Z6f]) (fun k j hj => ?_) (by simp only at hf; omega)]
    ·unfold validVals
     by_cases h4 : ∀ j, j < v.length -> decide (0 <= v.getD j 0 /\ v.getD j 0 <= 9) = true
     ·rw [if_pos h4, (Y2y (d := (0 : Int)) (p := fun x => decide (0 <= x /\ x <= 9))).1 h4]
     ·rw [if_neg h4]
      congr 1; symm
      rw [Bool.eq_false_iff]
      exact fun h5 => h4 ((Y2y (d := (0 : Int)) (p := fun x => decide (0 <= x /\ x <= 9))).2 h5)
    ·have h1 : (j : Int) < (v.length : Int) := by omega
     simp only at hf
     simp only [Z46, Z6f, h1, decide_true, cond_true, Y0 hj, grd_true, Y3 hj, l1In, Option.bind_some, Y2 hj, Y1 (j := j) (by omega), Yx]
   ·simp only [h3, decide_false, Bool.not_false, cond_true, Bool.false_and]
  ·simp only [h, decide_false, Bool.not_false, cond_true, Bool.false_and]
def cmpInts : List Int -> List Int -> Int
 | [], [] => 0
 | [], _ :: _ => -1
 | _ :: _, [] => 1
 | a :: x, b :: y => if a < b then -1 else if a > b then 1 else cmpInts x y
theorem Y2s : ∀ (a b : List Int), cmpInts a b = 0 ↔ a = b
 | [], [] => by simp [cmpInts]
 | [], _ :: _ => by simp [cmpInts]
 | _ :: _, [] => by simp [cmpInts]
 | a :: x, b :: y => by
  simp only [cmpInts, List.cons.injEq]
  split
  ·rename_i h; constructor
   ·intro h; omega
   ·intro h2; omega
  ·split
   ·rename_i h; constructor
    ·intro h; omega
    ·intro h2; omega
   ·rw [Y2s x y]
    constructor
    ·intro h; exact ⟨by omega, h⟩
    ·intro h; exact h.2
theorem Y3y {a b : List Int} (ha : a.length <= 1048576) (hb : b.length <= 1048576) (hN : 1048576 < N) : Z5u N a b = some (cmpInts a b) := by
 unfold Z5u Z0ay
 have := loop (fun k (j : Nat) => Z5j N k a b (j : Int)) (fun j => j <= a.length /\ j <= b.length /\ cmpInts (a.drop j) (b.drop j) = cmpInts a b) (fun j => a.length - j) (fun o => o = some (cmpInts a b)) (fun k j hs => by
  obtain ⟨h1, h2, h3⟩ := hs
  by_cases hj : j < a.length
  ·by_cases hjb : j < b.length
   ·have e1 : (j : Int) < (a.length : Int) := by omega
    have e2 : (j : Int) < (b.length : Int) := by omega
    simp only [Z5j, Z77, e1, e2, decide_true, cond_true, Y0 hj, Y0 hjb, grd_true, Y3 hj, Y3 hjb, Y1 (j := j) (by omega)]
    rw [List.drop_eq_getElem_cons hj, List.drop_eq_getElem_cons hjb] at h3
    simp only [cmpInts] at h3
    by_cases hlt : a[j] < b[j]
    ·left; simp only [hlt, if_true, decide_true, cond_true] at h3 ⊢; rw [h3]
    ·by_cases hgt : a[j] > b[j]
     ·left; simp only [hlt, hgt, if_true, if_false, decide_true, decide_false, cond_true, cond_false] at h3 ⊢; rw [h3]
     ·right
      simp only [hlt, hgt, if_false, decide_false, cond_false] at h3 ⊢
      exact ⟨j + 1, ⟨by omega, by omega, h3⟩, by omega, rfl⟩
   ·left
    have e1 : (j : Int) < (a.length : Int) := by omega
    have e2 : ¬ (j : Int) < (b.length : Int) := by omega
    have e3 : ¬ (a.length : Int) < (b.length : Int) := by omega
    have e4 : (a.length : Int) > (b.length : Int) := by omega
    simp only [Z5j, Z77, e1, e2, e3, e4, decide_true, decide_false, cond_true, cond_false]
    rw [List.drop_eq_getElem_cons hj, List.drop_of_length_le (l := b) (by omega)] at h3
    rw [<- h3]; rfl
  ·left
   have hja : j = a.length := by omega
   have e1 : ¬ (j : Int) < (a.length : Int) := by omega
   simp only [Z5j, Z77, e1, decide_false, cond_false]
   rw [List.drop_of_length_le (l := a) (by omega)] at h3
   by_cases hlt : a.length < b.length
   ·have e2 : (a.length : Int) < (b.length : Int) := by omega
    simp only [e2, decide_true, cond_true]
    rw [List.drop_eq_getElem_cons (by omega)] at h3
    rw [<- h3]; rfl
   ·have e2 : ¬ (a.length : Int) < (b.length : Int) := by omega
    have e3 : ¬ (a.length : Int) > (b.length : Int) := by omega
    simp only [e2, e3, decide_false, cond_false]
    rw [List.drop_of_length_le (by omega)] at h3
    rw [<- h3]; rfl) N 0 (by omega) ⟨by omega, by omega, rfl⟩
 exact this
theorem Y6x {a b : List Int} (ha : a.length <= 1048576) (hb : b.length <= 1048576) (hN : 1048576 < N) : Z1j N a b = some (cmpInts a b) := by
 have hc : ∀ x y : Int, Z4x N x y = some (if x < y then -1 else if x > y then 1 else 0) := by
  intro x y
  simp only [Z4x, Z6p, Option.bind_some, bneI, decide_true, Bool.not_true, cond_false]
  by_cases h1 : x < y
  ·simp [h1]
  ·by_cases h2 : x > y <;> simp [h1, h2]
 unfold Z1j Z6u
 have := loop (fun k (j : Nat) => Z11 N k a b a (a.length : Int) (j : Int)) (fun j => j <= a.length /\ j <= b.length /\ cmpInts (a.drop j) (b.drop j) = cmpInts a b) (fun j => a.length - j) (fun o => o = some (cmpInts a b)) (fun k j hs => by
  obtain ⟨h1, h2, h3⟩ := hs
  by_cases hj : j < a.length
  ·have e1 : (j : Int) < (a.length : Int) := by omega
   by_cases hjb : j < b.length
   ·have e2 : ¬ (j : Int) >= (b.length : Int) := by omega
    simp only [Z11, Z25, e1, e2, decide_true, decide_false, cond_true, cond_false, Y0 hj, Y0 hjb, grd_true, Y3 hj, Y3 hjb, Y1 (j := j) (by omega), hc, Option.bind_some]
    rw [List.drop_eq_getElem_cons hj, List.drop_eq_getElem_cons hjb] at h3
    simp only [cmpInts] at h3
    by_cases hlt : a[j] < b[j]
    ·left; simp only [hlt, if_true] at h3 ⊢; rw [<- h3]; rfl
    ·by_cases hgt : a[j] > b[j]
     ·left; simp only [hlt, hgt, if_true, if_false] at h3 ⊢; rw [<- h3]; rfl
     ·right
      simp only [hlt, hgt, if_false] at h3 ⊢
      exact ⟨j + 1, ⟨by omega, by omega, h3⟩, by omega, rfl⟩
   ·left
    have e2 : (j : Int) >= (b.length : Int) := by omega
    simp only [Z11, Z25, e1, e2, decide_true, cond_true, Y0 hj, grd_true]
    rw [List.drop_eq_getElem_cons hj, List.drop_of_length_le (l := b) (by omega)] at h3
    rw [<- h3]; rfl
  ·left
   have e1 : ¬ (j : Int) < (a.length : Int) := by omega
   simp only [Z11, Z25, e1, decide_false, cond_false]
   rw [List.drop_of_length_le (l := a) (by omega)] at h3
   by_cases hlt : a.length < b.length
   ·have e2 : (a.length : Int) < (b.length : Int) := by omega
    simp only [e2, decide_true, cond_true]
    rw [List.drop_eq_getElem_cons (by omega)] at h3
    rw [<- h3]; rfl
   ·have e2 : ¬ (a.length : Int) < (b.length : Int) := by omega
    simp only [e2, decide_false, cond_false]
    rw [List.drop_of_length_le (by omega)] at h3
    rw [<- h3]; rfl) N 0 (by omega) ⟨by omega, by omega, rfl⟩
 exact this
def cmpFacts (a b : Fact) : Int := if a.1 < b.1 then -1 else if a.1 > b.1 then 1 else cmpInts a.2 b.2
theorem Y7o {a b : Fact} (ha : a.2.length <= 1048576) (hb : b.2.length <= 1048576) (hN : 1048576 < N) : Z3w N a b = some (cmpFacts a b) := by
 unfold Z3w cmpFacts
 rw [Y3y ha hb hN]
 by_cases h1 : a.1 < b.1
 ·simp [h1]
 ·by_cases h2 : a.1 > b.1 <;> simp [h1, h2]
theorem Y7p {a b : Fact} (ha : a.2.length <= 1048576) (hb : b.2.length <= 1048576) (hN : 1048576 < N) : Z3y N a b = some (cmpFacts a b) := by
 unfold Z3y cmpFacts Z8s
 rw [Y6x ha hb hN, bneI]
 by_cases h1 : a.1 < b.1
 ·have : ¬ a.1 = b.1 := by omega
  simp [h1, this]
 ·by_cases h2 : a.1 > b.1
  ·have : ¬ a.1 = b.1 := by omega
   simp [h1, h2, this]
  ·have : a.1 = b.1 := by omega
   simp [this]
theorem Y3z {α : Type} (d : α) {xs : List α} {p : α -> Bool} : (∃ j, j < xs.length /\ p (xs.getD j d) = true) ↔ xs.any p = true := by
 rw [List.any_eq_true]
 constructor
 ·rintro ⟨j, hj, h⟩
  rw [Y2 hj] at h
  exact ⟨_, List.getElem_mem hj, h⟩
 ·rintro ⟨x, hx, h⟩
  obtain ⟨i, hi, rfl⟩ := List.mem_iff_getElem.1 hx
  exact ⟨i, hi, by rw [Y2 hi]; exact h⟩
theorem Yp {α : Type} {d : α} {xs : List α} {p : α -> Bool} {g : Option Int} (h : (∃ j, j < xs.length /\ p (xs.getD j d) = true /\ (∀ i, i < j -> p (xs.getD i d) = false) /\ g = some (j : Int)) \/ ((∀ i, i < xs.length -> p (xs.getD i d) = false) /\ g = some (-1))) : (g.bind fun r => some (decide (r >= 0))) = some (xs.any p) := by
 rcases h with ⟨j, h1, h2, _, rfl⟩ | ⟨h1, rfl⟩
 ·rw [(Y3z d).1 ⟨j, h1, h2⟩]
  simp
 ·have : xs.any p = false := by
   rw [Bool.eq_false_iff]
   intro h
   obtain ⟨j, hj, h2⟩ := (Y3z d).2 h
   rw [h1 j hj] at h2; simp at h2
  rw [this]; rfl
theorem Y5y {v : List Int} (hv : v.length <= 1048576) (hN : 1048576 < N) : Z5o N v = some (validVals v) := by
 unfold Z5o Z0e Z0g Z2m
 rw [Yp (d := (0 : Int)) (xs := v) (p := fun x => !decide (0 <= x /\ x <= 9)) (first (n := v.length) (fun j => !decide (0 <= v.getD j 0 /\ v.getD j 0 <= 9)) (fun k i => Z0d N k v (v.length : Int) i) (fun k => by simp [Z0d, Z0v]) (fun k j hj => ?_) (by omega))]
 ·simp only [Option.bind_some, validVals]
  rw [show (v.any fun x => !decide (0 <= x /\ x <= 9)) = !(v.all fun x => decide (0 <= x /\ x <= 9)) from (List.not_all_eq_any_not (l := v) (p := fun x => decide (0 <= x /\ x <= 9))).symm, Bool.not_not]
 ·have h1 : (j : Int) < (v.length : Int) := by omega
  simp only [Z0d, Z0v, h1, decide_true, cond_true, Y0 hj, grd_true, Y3 hj, Z54, Yf, Option.bind_some, Y2 hj, Y1 (j := j) (by omega)]
  cases decide (0 <= v[j] /\ v[j] <= 9) <;> rfl
theorem Y5z {l : List Rel} {f : Fact} (hl : l.length <= 1048576) (hf : f.2.length <= 1048576) (hN : 1048576 < N) : Z89 N l f = some (fact1 l f) := by
 obtain ⟨r, v⟩ := f
 simp only [Z89, Yf, Option.bind_some, fact1]
 rw [Y5 (by omega) (by omega)]
 by_cases h : 0 <= r /\ r <= (l.length : Int) - 1
 ·have h2 : r.toNat < l.length := by omega
  simp only [h, and_self, decide_true, cond_true, Y8 h.1 (show r < l.length by omega), grd_true, Y5f h.1 (show r < l.length by omega), beqI, Y2 h2, Bool.true_and]
  simp only at hf
  rw [Y5y hf hN]
  cases decide ((v.length : Int) = l[r.toNat].2.1) <;> rfl
 ·simp only [h, decide_false, cond_false, Bool.false_and]
def factAt (d : Db) (j : Nat) : Fact := d.2.getD j (0, [])
def factsOk (d : Db) : Prop := ∀ j, j < d.2.length -> (fact1 d.1 (factAt d j) && (decide (j = 0) || decide (cmpFacts (factAt d (j - 1)) (factAt d j) < 0))) = true
instance (d : Db) : Decidable (factsOk d) := by unfold factsOk; infer_instance
def validDb (d : Db) : Bool := validRels d.1 && (decide (d.2.length <= 14) && decide (factsOk d))
theorem Yi {d : Db} (h : SmallDb d) (hN : 1048576 < N) : Z0 N d = some (validDb d) := by
 have hv : ∀ j, j < d.2.length -> (factAt d j).2.length <= 1048576 := fun j hj => by unfold factAt; rw [Y2 hj]; exact h.vals _ (List.getElem_mem hj)
 unfold Z0 Z85
 rw [Y7 (n := d.2.length) (fun j => (validRels d.1 && fact1 d.1 (factAt d j)) && (decide (j = 0) || decide (cmpFacts (factAt d (j - 1)) (factAt d j) < 0))) (some false) (some (validRels d.1 && decide (d.2.length <= 14))) (fun k i => Z2f N k d.1 d.2 i)
  (fun k => by
   simp only [Z2f, Z4s, Int.lt_irrefl, decide_false, cond_false, Y1l h.rels hN, Option.bind_some]
   cases validRels d.1 with
   | false => rfl
   | true => simp only [cond_true, Bool.true_and, Option.some.injEq]; exact decide_eq_decide.2 (by omega)) (fun k j hj => ?_) (by have := h.facts; omega)]
 ·unfold validDb factsOk
  cases hr : validRels d.1 with
  | true =>
   simp only [Bool.true_and]
   by_cases h2 : ∀ j, j < d.2.length -> (fact1 d.1 (factAt d j) && (decide (j = 0) || decide (cmpFacts (factAt d (j - 1)) (factAt d j) < 0))) = true
   ·rw [if_pos h2, decide_eq_true h2, Bool.and_true]
   ·rw [if_neg h2, decide_eq_false h2, Bool.and_false]
  | false => simp
 ·have h1 : (j : Int) < (d.2.length : Int) := by omega
  have hf := h.facts
  have ha : at_ (0, []) d.2 (j : Int) = factAt d j := by unfold factAt; rw [Y3 hj, Y2 hj]
  simp only [Z2f, Z4s, h1, decide_true, cond_true, Y0 hj, grd_true, ha, Y1m h.rels (hv j hj) hN, Option.bind_some, Y1 (j := j) (by omega)]
  cases validRels d.1 && fact1 d.1 (factAt d j) with
  | false => rfl
  | true =>
   simp only [Bool.not_true, cond_false, Bool.true_and]
   by_cases h0 : j = 0
   ·subst h0; simp
   ·have h3 : (j : Int) > 0 := by omega
    have h4 : j - 1 < d.2.length := by omega
    have hb : at_ (0, []) d.2 ((j - 1 : Nat) : Int) = factAt d (j - 1) := by unfold factAt; rw [Y3 h4, Y2 h4]
    simp only [h3, decide_true, cond_true, Yc (show 0 < j by omega) (by omega), Y0 h4, grd_true, hb, Y7o (hv _ h4) (hv _ hj) hN, Option.bind_some, h0, decide_false, Bool.false_or]
    by_cases h5 : cmpFacts (factAt d (j - 1)) (factAt d j) < 0
    ·have : ¬ cmpFacts (factAt d (j - 1)) (factAt d j) >= 0 := by omega
     simp [h5, this]
    ·have : cmpFacts (factAt d (j - 1)) (factAt d j) >= 0 := by omega
     simp [h5, this]
theorem Y1u {d : Db} (h : SmallDb d) (hN : 1048576 < N) : Z0a N d = some (validDb d) := by
 have hv : ∀ j, j < d.2.length -> (factAt d j).2.length <= 1048576 := fun j hj => by unfold factAt; rw [Y2 hj]; exact h.vals _ (List.getElem_mem hj)
 unfold Z0a Z8a
 rw [Y3x h.rels hN, Option.bind_some]
 unfold validDb
 cases validRels d.1 with
 | false => rfl
 | true =>
  simp only [Bool.not_true, cond_false, Bool.true_and]
  by_cases h14 : d.2.length <= 14
  ·have : ¬ (d.2.length : Int) > 14 := by omega
   simp only [this, decide_false, cond_false, h14, decide_true, Bool.true_and]
   rw [Y7 (n := d.2.length) (fun j => fact1 d.1 (factAt d j) && (decide (j = 0) || decide (cmpFacts (factAt d (j - 1)) (factAt d j) < 0))) (some false) (some true) (fun k i => Z2g N k d.1 d.2 d.2 (d.2.length : Int) i)
    (fun k => by simp [Z2g, Z4t]) (fun k j hj => ?_) (by omega)]
   ·unfold factsOk
    by_cases h2 : ∀ j, j < d.2.length -> (fact1 d.1 (factAt d j) && (decide (j = 0) || decide (cmpFacts (factAt d (j - 1)) (factAt d j) < 0))) = true
    ·rw [if_pos h2, decide_eq_true h2]
    ·rw [if_neg h2, decide_eq_false h2]
   ·have h1 : (j : Int) < (d.2.length : Int) := by omega
    have ha : at_ (0, []) d.2 (j : Int) = factAt d j := by unfold factAt; rw [Y3 hj, Y2 hj]
    simp only [Z2g, Z4t, h1, decide_true, cond_true, Y0 hj, grd_true, ha, Y5z h.rels (hv j hj) hN, Option.bind_some, Y1 (j := j) (by omega)]
    cases fact1 d.1 (factAt d j) with
    | false => rfl
    | true =>
     simp only [Bool.not_true, cond_false, Bool.true_and]
     by_cases h0 : j = 0
     ·subst h0; simp
     ·have h3 : (j : Int) > 0 := by omega
      have h4 : j - 1 < d.2.length := by omega
      have hb : at_ (0, []) d.2 ((j - 1 : Nat) : Int) = factAt d (j - 1) := by unfold factAt; rw [Y3 h4, Y2 h4]
      simp only [h3, decide_true, cond_true, Yc (show 0 < j by omega) (by omega), Y0 h4, grd_true, hb, Y7p (hv _ h4) (hv _ hj) hN, Option.bind_some, h0, decide_false, Bool.false_or]
      by_cases h5 : cmpFacts (factAt d (j - 1)) (factAt d j) < 0
      ·have : ¬ cmpFacts (factAt d (j - 1)) (factAt d j) >= 0 := by omega
       simp [h5, this]
      ·have : cmpFacts (factAt d (j - 1)) (factAt d j) >= 0 := by omega
       simp [h5, this]
  ·have : (d.2.length : Int) > 14 := by omega
   simp [this, h14]
theorem Y1q : ∀ (a b c : List Int), cmpInts a b < 0 -> cmpInts b c < 0 -> cmpInts a c < 0
 | [], [], c, h, _ => by simp [cmpInts] at h
 | [], _ :: _, [], _, h => by simp [cmpInts] at h
 | [], _ :: _, _ :: _, _, _ => by simp [cmpInts]
 | _ :: _, [], c, h, _ => by simp [cmpInts] at h
 | _ :: _, _ :: _, [], _, h => by simp [cmpInts] at h
 | x :: a, y :: b, z :: c, h1, h2 => by
  simp only [cmpInts] at h1 h2 ⊢
  by_cases hxy : x < y
  ·by_cases hyz : y < z
   ·rw [if_pos (by omega)]; omega
   ·rw [if_neg hyz] at h2
    split at h2
    ·omega
    ·rw [if_pos (by omega)]; omega
  ·rw [if_neg hxy] at h1
   split at h1
   ·omega
   ·have : x = y := by omega
    subst this
    by_cases hyz : x < z
    ·rw [if_pos hyz]; omega
    ·rw [if_neg hyz] at h2 ⊢
     split at h2
     ·omega
     ·rename_i hg
      rw [if_neg hg]
      exact Y1q a b c h1 h2
theorem Y2z {a b c : Fact} (h1 : cmpFacts a b < 0) (h2 : cmpFacts b c < 0) : cmpFacts a c < 0 := by
 unfold cmpFacts at h1 h2 ⊢
 by_cases hab : a.1 < b.1
 ·by_cases hbc : b.1 < c.1
  ·rw [if_pos (by omega)]; omega
  ·rw [if_neg hbc] at h2
   split at h2
   ·omega
   ·rw [if_pos (by omega)]; omega
 ·rw [if_neg hab] at h1
  split at h1
  ·omega
  ·by_cases hbc : b.1 < c.1
   ·rw [if_pos (by omega)]; omega
   ·rw [if_neg hbc] at h2
    split at h2
    ·omega
    ·rw [if_neg (by omega), if_neg (by omega)]
     exact Y1q _ _ _ h1 h2
theorem Z0d3 : ∀ (n : Nat) (a b c : List Int), cmpInts a b < 0 -> cmpInts b c < 0 -> a.take n = c.take n -> a.length = b.length -> b.length = c.length -> a.take n = b.take n
 | 0, _, _, _, _, _, _, _, _ => by simp
 | n + 1, [], [], _, h, _, _, _, _ => by simp [cmpInts] at h
 | n + 1, [], _ :: _, _, _, _, _, h, _ => by simp at h
 | n + 1, _ :: _, [], _, _, _, _, h, _ => by simp at h
 | n + 1, _ :: _, _ :: _, [], _, _, _, _, h => by simp at h
 | n + 1, x :: a, y :: b, z :: c, h1, h2, h3, h4, h5 => by
  simp only [List.take_succ_cons, List.cons.injEq] at h3 ⊢
  simp only [cmpInts] at h1 h2
  obtain ⟨rfl, h3⟩ := h3
  by_cases hxy : x < y
  ·rw [if_neg (by omega), if_pos (by omega)] at h2; omega
  ·rw [if_neg hxy] at h1
   split at h1
   ·omega
   ·have : x = y := by omega
    subst this
    rw [if_neg (by omega), if_neg (by omega)] at h2
    exact ⟨rfl, Z0d3 n a b c h1 h2 h3 (by simpa using h4) (by simpa using h5)⟩
section
variable (S : Nat -> Nat -> Bool)
def blk (n s : Nat) : List Nat := (List.range n).filter (S s)
def isSt (s : Nat) : Bool := (List.range s).all fun k => !S s k
def sts (n : Nat) : List Nat := (List.range n).filter (isSt S)
def B (n : Nat) : List (List Nat) := (sts S n).map (blk S n)
structure Runs (n : Nat) : Prop where
 refl : ∀ i, S i i = true
 symm : ∀ i k, S i k = true -> S k i = true
 trans : ∀ i j k, S i j = true -> S j k = true -> S i k = true
 run : ∀ i j k, i <= j -> j <= k -> k < n -> S i k = true -> S i j = true
variable {S}
theorem Y2i {s : Nat} : isSt S s = true ↔ ∀ k, k < s -> S s k = false := by
 unfold isSt
 rw [List.all_eq_true]
 constructor
 ·intro h k hk
  have := h k (List.mem_range.2 hk)
  simpa using this
 ·intro h k hk
  rw [h k (List.mem_range.1 hk)]; rfl
theorem Y6y (n : Nat) : sts S (n + 1) = sts S n ++ (if isSt S n = true then [n] else []) := by
 unfold sts
 rw [List.range_succ, List.filter_append]
 congr 1
 by_cases h : isSt S n = true <;> simp [h]
theorem Y6z (n s : Nat) : blk S (n + 1) s = blk S n s ++ (if S s n = true then [n] else []) := by
 unfold blk
 rw [List.range_succ, List.filter_append]
 congr 1
 by_cases h : S s n = true <;> simp [h]
theorem Y70 {n s : Nat} (hr : S s s = true) (hs : s < n) : ∃ h r, blk S n s = h :: r /\ S s h = true /\ (h = s ↔ isSt S s = true) := by
 have hm : s ∈ blk S n s := List.mem_filter.2 ⟨List.mem_range.2 hs, hr⟩
 cases hb : blk S n s with
 | nil => rw [hb] at hm; simp at hm
 | cons h r =>
  have hh : (blk S n s).head? = some h := by rw [hb]; rfl
  unfold blk at hh
  rw [List.head?_filter, List.find?_range_eq_some] at hh
  obtain ⟨h1, h2, h3⟩ := hh
  refine ⟨h, r, rfl, h1, ?_⟩
  constructor
  ·intro e
   subst e
   rw [Y2i]
   intro k hk
   have := h3 k hk
   simpa using this
  ·intro hst
   have h4 : ¬ h < s := fun hlt => by
    rw [Y2i.1 hst h hlt] at h1; simp at h1
   have h5 : ¬ s < h := fun hlt => by
    have := h3 s hlt
    rw [hr] at this; simp at this
   omega
end
def keyLen (l : List Rel) (f : Fact) : Int := (l.getD f.1.toNat (⟨#[]⟩, 0, 0)).2.2
def keyOf (l : List Rel) (f : Fact) : List Int := f.2.take (keyLen l f).toNat
def sameK (l : List Rel) (a b : Fact) : Bool := decide (a.1 = b.1) && decide (keyOf l a = keyOf l b)
theorem Y40 {r : Rel} (h : validRel r = true) : 0 <= r.2.2 /\ r.2.2 <= r.2.1 := by
 unfold validRel Z9 at h
 by_cases h1 : r.1.size = 1
 ·have hb : ∃ b, byteAt r.1 0 = some b := by
   unfold byteAt
   have : (0 : Int).toNat < r.1.size := by omega
   exact ⟨r.1[(0 : Int).toNat], by rw [if_pos (by omega), getElem?_pos]⟩
  obtain ⟨b, hb⟩ := hb
  rw [hb] at h
  simp only [Option.bind_some, l1In] at h
  by_cases h2 : 0 <= r.2.2 /\ r.2.2 <= r.2.1
  ·exact h2
  ·rw [decide_eq_false h2] at h
   exfalso
   revert h
   cases ((r.1.size : Int) == 1) <;> cases decide ((b.toNat : Int) >= 97) <;> cases decide ((b.toNat : Int) <= 122) <;> cases decide (1 <= r.2.1 /\ r.2.1 <= 3) <;> simp
 ·have h0 : ((r.1.size : Int) == 1) = false := by rw [beqI]; simp; omega
  rw [h0] at h
  simp at h
theorem Yk {l : List Rel} (h : validRels l = true) {j : Nat} (hj : j < l.length) : validRel (l.getD j (⟨#[]⟩, 0, 0)) = true := by
 have := (of_decide_eq_true h).1 j hj
 rw [Bool.and_eq_true] at this
 exact this.1
structure GoodFact (l : List Rel) (f : Fact) : Prop where
 lo : 0 <= f.1
 hi : f.1 < (l.length : Int)
 len : (f.2.length : Int) = (l.getD f.1.toNat (⟨#[]⟩, 0, 0)).2.1
 k0 : 0 <= keyLen l f
 k1 : keyLen l f <= (f.2.length : Int)
theorem Ye {l : List Rel} {f : Fact} (hl : validRels l = true) (hf : fact1 l f = true) : GoodFact l f := by
 unfold fact1 at hf
 rw [Bool.and_eq_true, Bool.and_eq_true, decide_eq_true_eq, decide_eq_true_eq] at hf
 obtain ⟨⟨h1, h2⟩, h3, h4⟩ := hf
 have := Y40 (Yk hl (j := f.1.toNat) (by omega))
 exact ⟨h1, by omega, h3, this.1, by rw [h3]; exact this.2⟩
theorem Y60 {a b : List Int} (ha : a.length <= 1048576) (hN : 1048576 < N) : Z27 N a b = some (decide (a = b)) := by
 unfold Z27 Z7n
 by_cases hl : a.length = b.length
 ·have : ((a.length : Int) != (b.length : Int)) = false := by rw [bneI]; simp; omega
  rw [this, cond_false, Y11 (n := a.length) (fun j => decide (a[j]? = b[j]?)) (fun k i => Z26 N k a b (a.length : Int) i) (fun k => by simp [Z26, Z4e]) (fun k j hj => ?_) (by omega)]
  ·congr 1
   exact decide_eq_decide.2 (Y4h hl).symm
  ·have h1 : (j : Int) < (a.length : Int) := by omega
   have hjb : j < b.length := by omega
   simp only [Z26, Z4e, h1, decide_true, cond_true, Y0 hj, Y0 hjb, grd_true, Y3 hj, Y3 hjb, Y1 (j := j) (by omega), bneI, List.getElem?_eq_getElem hj, List.getElem?_eq_getElem hjb, Option.some.injEq]
   by_cases h : a[j] = b[j] <;> simp [h]
 ·have : ((a.length : Int) != (b.length : Int)) = true := by rw [bneI]; simp; omega
  have hne : ¬ a = b := fun h => hl (by rw [h])
  rw [this, cond_true, decide_eq_false hne]
theorem Yt {lo hi : Int} {n : Nat} (h1 : 0 <= lo) (h2 : lo <= hi) (h3 : hi <= (n : Int)) : subOk lo hi n = true := by
 unfold subOk; rw [decide_eq_true h1, decide_eq_true h2, decide_eq_true h3]; rfl
theorem Y4 {α : Type} {s x : List α} {b : Nat} (hb : b <= 1000) (h : s.length + x.length <= 140737488355) : appOk s x b = true := by
 unfold appOk
 refine decide_eq_true ?_
 calc (s.length + x.length) * b <= 140737488355 * 1000 := Nat.mul_le_mul h hb
  _ <= _ := by omega
theorem Y4q {l : List Rel} {f : Fact} (hl : l.length <= 1048576) (hf : f.2.length <= 1048576) (hN : 1048576 < N) (hv : validRels l = true) (h1 : fact1 l f = true) : Z7v N l f = some (keyOf l f) := by
 have g := Ye hv h1
 have e : (at_ (⟨#[]⟩, 0, 0) l f.1).2.2 = keyLen l f := rfl
 unfold Z7v
 rw [Y1m hl hf hN, hv, h1, Option.bind_some, Y8 g.lo g.hi, grd_true]
 simp only [Bool.and_self, Bool.not_true, cond_false, e]
 rw [Yt (by omega) g.k0 g.k1, grd_true, Y4 (by omega) (by simp only [List.length_nil, List.length_take]; omega), grd_true]
 rfl
theorem Y41 {l : List Rel} {a b : Fact} (hl : l.length <= 1048576) (ha : a.2.length <= 1048576) (hb : b.2.length <= 1048576) (hN : 1048576 < N) (hv : validRels l = true) (h1 : fact1 l a = true) (h2 : fact1 l b = true) : Z2h N l a b = some (sameK l a b) := by
 unfold Z2h sameK
 rw [Y1m hl ha hN, Y1m hl hb hN, hv, h1, h2]
 simp only [Bool.and_self, Option.bind_some, cond_true, beqI]
 by_cases h : a.1 = b.1
 ·rw [decide_eq_true h, cond_true, Y4q hl ha hN hv h1, Y4q hl hb hN hv h2, Option.bind_some, Option.bind_some,
   Y3y (by unfold keyOf; rw [List.length_take]; omega) (by unfold keyOf; rw [List.length_take]; omega) hN, Option.bind_some, Bool.true_and]
  congr 1
  exact decide_eq_decide.2 (Y2s _ _)
 ·rw [decide_eq_false h]; rfl
theorem Y71 {l : List Rel} {a b : Fact} (ha : a.2.length <= 1048576) (hb : b.2.length <= 1048576) (hN : 1048576 < N) (hv : validRels l = true) (h1 : fact1 l a = true) (h2 : fact1 l b = true) : Z7d N l a b = some (sameK l a b) := by
 have g := Ye hv h1
 have g' := Ye hv h2
 have e : (at_ (⟨#[]⟩, 0, 0) l a.1).2.2 = keyLen l a := rfl
 unfold Z7d sameK
 rw [bneI]
 by_cases h : a.1 = b.1
 ·have hk : keyLen l a = keyLen l b := by unfold keyLen; rw [h]
  rw [decide_eq_true h, Bool.not_true, cond_false, Y8 g.lo g.hi, grd_true, e]
  rw [Yt (by omega) g.k0 g.k1, grd_true, Yt (by omega) g.k0 (by have := g'.k1; rw [<- hk] at this; exact this), grd_true, Y60 (by rw [List.length_take]; omega) hN, Option.bind_some, Bool.true_and]
  unfold keyOf
  rw [<- hk]
 ·rw [decide_eq_false h]; rfl
def sameD (d : Db) (i k : Nat) : Bool := sameK d.1 (factAt d i) (factAt d k)
structure ValidDb (d : Db) : Prop where
 rels : validRels d.1 = true
 few : d.2.length <= 14
 fact : ∀ j, j < d.2.length -> fact1 d.1 (factAt d j) = true
 lt : ∀ i k, i < k -> k < d.2.length -> cmpFacts (factAt d i) (factAt d k) < 0
theorem Y6 {d : Db} (h : validDb d = true) : ValidDb d := by
 unfold validDb at h
 rw [Bool.and_eq_true, Bool.and_eq_true, decide_eq_true_eq, decide_eq_true_eq] at h
 obtain ⟨h1, h2, h3⟩ := h
 refine ⟨h1, h2, fun j hj => ?_, ?_⟩
 ·have := h3 j hj
  rw [Bool.and_eq_true] at this
  exact this.1
 ·have step : ∀ j, 0 < j -> j < d.2.length -> cmpFacts (factAt d (j - 1)) (factAt d j) < 0 := by
   intro j h0 hj
   have := h3 j hj
   rw [Bool.and_eq_true, Bool.or_eq_true, decide_eq_true_eq, decide_eq_true_eq] at this
   rcases this.2 with h | h
   ·omega
   ·exact h
  intro i k
  induction k with
  | zero => intro h; omega
  | succ k ih =>
   intro hik hk
   have hs := step (k + 1) (by omega) hk
   rw [Nat.add_sub_cancel] at hs
   by_cases h : i = k
   ·subst h; exact hs
   ·exact Y2z (ih (by omega) (by omega)) hs
theorem runs {d : Db} (h : ValidDb d) : Runs (sameD d) d.2.length := by
 refine ⟨fun i => by simp [sameD, sameK], fun i k hs => ?_, fun i j k h1 h2 => ?_, fun i j k hij hjk hk hs => ?_⟩
 ·simp only [sameD, sameK, Bool.and_eq_true, decide_eq_true_eq] at hs ⊢
  exact ⟨hs.1.symm, hs.2.symm⟩
 ·simp only [sameD, sameK, Bool.and_eq_true, decide_eq_true_eq] at h1 h2 ⊢
  exact ⟨h1.1.trans h2.1, h1.2.trans h2.2⟩
 ·by_cases e1 : i = j
  ·subst e1; simp [sameD, sameK]
  ·by_cases e2 : j = k
   ·subst e2; exact hs
   ·have l1 := h.lt i j (by omega) (by omega)
    have l2 := h.lt j k (by omega) hk
    have g1 := Ye h.rels (h.fact i (by omega))
    have g2 := Ye h.rels (h.fact j (by omega))
    have g3 := Ye h.rels (h.fact k hk)
    simp only [sameD, sameK, Bool.and_eq_true, decide_eq_true_eq] at hs ⊢
    obtain ⟨s1, s2⟩ := hs
    generalize factAt d i = a at *
    generalize factAt d j = b at *
    generalize factAt d k = c at *
    have hab : a.1 = b.1 := by
     unfold cmpFacts at l1 l2
     by_cases q1 : a.1 < b.1
     ·have : b.1 > c.1 := by omega
      rw [if_neg (by omega), if_pos this] at l2; omega
     ·rw [if_neg q1] at l1
      split at l1
      ·omega
      ·omega
    have hbc : b.1 = c.1 := by omega
    have c1 : cmpInts a.2 b.2 < 0 := by unfold cmpFacts at l1; rw [if_neg (by omega), if_neg (by omega)] at l1; exact l1
    have c2 : cmpInts b.2 c.2 < 0 := by unfold cmpFacts at l2; rw [if_neg (by omega), if_neg (by omega)] at l2; exact l2
    have k1 : keyLen d.1 a = keyLen d.1 b := by unfold keyLen; rw [hab]
    have k2 : keyLen d.1 b = keyLen d.1 c := by unfold keyLen; rw [hbc]
    have n1 := g1.len
    have n2 := g2.len
    have n3 := g3.len
    rw [hab] at n1
    rw [hbc] at n1 n2
    unfold keyOf at s2 ⊢
    rw [<- k2, <- k1] at s2
    rw [<- k1]
    exact ⟨hab, Z0d3 _ _ _ _ c1 c2 s2 (by omega) (by omega)⟩
theorem Y2t : ∀ {a b : List Int}, a.Pairwise (· < ·) -> b.Pairwise (· < ·) -> (∀ x, x ∈ a ↔ x ∈ b) -> a = b
 | [], [], _, _, _ => rfl
 | [], y :: b, _, _, h => by have := (h y).2 (by simp); simp at this
 | x :: a, [], _, _, h => by have := (h x).1 (by simp); simp at this
 | x :: a, y :: b, ha, hb, h => by
  rw [List.pairwise_cons] at ha hb
  have e : x = y := by
   have h1 := (h x).1 (by simp)
   have h2 := (h y).2 (by simp)
   rcases List.mem_cons.1 h1 with h1 | h1
   ·exact h1
   ·rcases List.mem_cons.1 h2 with h2 | h2
    ·exact h2.symm
    ·have := ha.1 y h2
     have := hb.1 x h1
     omega
  subst e
  rw [Y2t ha.2 hb.2 fun z => ?_]
  have hz := h z
  simp only [List.mem_cons] at hz
  constructor
  ·intro hm
   have := ha.1 z hm
   rcases hz.1 (.inr hm) with h3 | h3
   ·omega
   ·exact h3
  ·intro hm
   have := hb.1 z hm
   rcases hz.2 (.inr hm) with h3 | h3
   ·omega
   ·exact h3
def uniq (s : List Int) : List Int := ((List.range s.length).filter fun j => decide (j = 0 \/ s.toArray[j]! ≠ s.toArray[j - 1]!)).map fun j => s.toArray[j]!
theorem Yl {s : List Int} {j : Nat} (h : j < s.length) : s.toArray[j]! = s[j] := by
 rw [getElem!_pos s.toArray j (by simpa using h)]; simp
theorem Y4i {s : List Int} (h : s.Pairwise (· <= ·)) : (uniq s).Pairwise (· < ·) := by
 unfold uniq
 rw [List.pairwise_map]
 refine (List.Pairwise.filter _ List.pairwise_lt_range).imp_of_mem fun {i j} hi hj hlt => ?_
 obtain ⟨hj1, hj2⟩ := List.mem_filter.1 hj
 have hj1 := List.mem_range.1 hj1
 rw [decide_eq_true_eq, Yl hj1, Yl (show j - 1 < s.length by omega)] at hj2
 rw [Yl (show i < s.length by omega), Yl hj1]
 have h1 := List.pairwise_iff_getElem.1 h (j - 1) j (by omega) hj1 (by omega)
 have h2 : s[i] <= s[j - 1] := by
  by_cases e : i = j - 1
  ·subst e; exact Int.le_refl _
  ·exact List.pairwise_iff_getElem.1 h i (j - 1) (by omega) (by omega) (by omega)
 rcases hj2 with hj2 | hj2 <;> omega
theorem Y72 {s : List Int} (x : Int) : x ∈ uniq s ↔ x ∈ s := by
 unfold uniq
 rw [List.mem_map]
 constructor
 ·rintro ⟨j, hj, rfl⟩
  have := List.mem_range.1 (List.mem_filter.1 hj).1
  rw [Yl this]
  exact List.getElem_mem this
 ·intro hx
  obtain ⟨j, hj, rfl⟩ := List.mem_iff_getElem.1 hx
  have key : ∀ j (hj : j < s.length), ∃ i, i ∈ ((List.range s.length).filter fun j => decide (j = 0 \/ s.toArray[j]! ≠ s.toArray[j - 1]!)) /\ s.toArray[i]! = s[j] := by
   intro j
   induction j with
   | zero => intro hj; exact ⟨0, List.mem_filter.2 ⟨List.mem_range.2 hj, by simp⟩, Yl hj⟩
   | succ j ih =>
    intro hj
    by_cases e : s[j + 1] = s[j]
    ·obtain ⟨i, h1, h2⟩ := ih (by omega)
     exact ⟨i, h1, by rw [h2, e]⟩
    ·refine ⟨j + 1, List.mem_filter.2 ⟨List.mem_range.2 hj, ?_⟩, Yl hj⟩
     rw [decide_eq_true_eq, Yl hj, Nat.add_sub_cancel, Yl (show j < s.length by omega)]
     exact .inr e
  exact key j hj
def setOf (s : List Int) : List Int := uniq (s.mergeSort fun a b => decide (a <= b))
theorem Y42 (s : List Int) : (setOf s).Pairwise (· < ·) := by
 refine Y4i ?_
 have := List.pairwise_mergeSort (le := fun a b : Int => decide (a <= b)) (fun a b c h1 h2 => by simp only [decide_eq_true_eq] at *; omega) (fun a b => by simp only [Bool.or_eq_true, decide_eq_true_eq]; omega) s
 exact this.imp fun h => by simpa using h
theorem Y34 {s : List Int} (x : Int) : x ∈ setOf s ↔ x ∈ s := by unfold setOf; rw [Y72, List.mem_mergeSort]
theorem Y61 (s : List Int) : (setOf s).length <= s.length := by
 unfold setOf uniq
 rw [List.length_map, List.length_mergeSort]
 have := List.length_filter_le (fun j => decide (j = 0 \/ (s.mergeSort fun a b => decide (a <= b)).toArray[j]! ≠ (s.mergeSort fun a b => decide (a <= b)).toArray[j - 1]!)) (List.range (s.mergeSort fun a b => decide (a <= b)).length)
 rwa [List.length_range, List.length_mergeSort] at this
theorem Y7q {L : List (List Int)} (hl : L.length <= 1000) (hs : (L.map List.length).sum <= 1000000) (hN : 1048576 < N) : Z21 N L = some L.flatten := by
 unfold Z21 Z7e
 have sum_take : ∀ (L : List (List Int)) (j : Nat), ((L.take j).map List.length).sum <= (L.map List.length).sum := by
  intro L
  induction L with
  | nil => intro j; simp
  | cons b L ih =>
   intro j
   cases j with
   | zero => simp
   | succ j => have := ih j; simp only [List.take_succ_cons, List.map_cons, List.sum_cons]; omega
 have flat_len : ∀ L : List (List Int), L.flatten.length = (L.map List.length).sum := fun L => List.length_flatten
 have inner : Z24 N N [] L (L.length : Int) 0 = some L.flatten := by
  have := loop (fun k (s : Nat) => Z24 N k (L.take s).flatten L (L.length : Int) (s : Int)) (fun s => s <= L.length) (fun s => L.length - s) (fun o => o = some L.flatten) (fun k j hj' => by
   simp only [Z24, Z63]
   by_cases hj : j < L.length
   ·right
    refine ⟨j + 1, hj, by omega, ?_⟩
    have h1 : (j : Int) < (L.length : Int) := by omega
    have t := sum_take L (j + 1)
    rw [List.take_succ_eq_append_getElem hj, List.map_append, List.sum_append] at t
    simp only [List.map_cons, List.map_nil, List.sum_cons, List.sum_nil] at t
    simp only [h1, decide_true, cond_true, Y0 hj, grd_true, Y3 hj]
    rw [Y4 (by omega) (by rw [flat_len]; omega), grd_true, Y1 (by omega), List.take_succ_eq_append_getElem hj, List.flatten_append]
    simp only [List.flatten_cons, List.flatten_nil, List.append_nil]
   ·left
    have h1 : ¬ (j : Int) < (L.length : Int) := by omega
    simp only [h1, decide_false, cond_false]
    rw [List.take_of_length_le (by omega)]) N 0 (by omega) (by omega)
  exact this
 have := loop (fun k (s : Nat) => Z2z N k L (((L.take s).map List.length).sum : Int) L (L.length : Int) (s : Int)) (fun s => s <= L.length) (fun s => L.length - s) (fun o => o = some L.flatten) (fun k j hj' => by
  simp only [Z2z, Z64]
  by_cases hj : j < L.length
  ·right
   refine ⟨j + 1, hj, by omega, ?_⟩
   have h1 : (j : Int) < (L.length : Int) := by omega
   have t := sum_take L (j + 1)
   have e : ((L.take (j + 1)).map List.length).sum = ((L.take j).map List.length).sum + (L[j]).length := by
    rw [List.take_succ_eq_append_getElem hj, List.map_append, List.sum_append]
    simp
   have ew : w64 ((((L.take j).map List.length).sum : Int) + ((L[j]).length : Int)) = (((L.take (j + 1)).map List.length).sum : Int) := by
    rw [e, Y5 (by omega) (by omega)]
    omega
   have h2 : ¬ ((((L.take (j + 1)).map List.length).sum : Nat) : Int) < 0 := by omega
   simp only [h1, decide_true, cond_true, Y0 hj, grd_true, Y3 hj, ew, decide_eq_false h2, cond_false, Y1 (j := j) (by omega)]
  ·left
   have h1 : ¬ (j : Int) < (L.length : Int) := by omega
   have e : L.take j = L := List.take_of_length_le (by omega)
   have g : (decide ((0 : Int) <= ((L.map List.length).sum : Int)) && decide ((([] : List Int).length + (((L.map List.length).sum : Nat) : Int).toNat) * 8 <= 140737488355328)) = true := by
    rw [Bool.and_eq_true, decide_eq_true_eq, decide_eq_true_eq, Int.toNat_natCast]
    simp only [List.length_nil]
    omega
   simp only [h1, decide_false, cond_false, e, Z8v, g, grd_true, Option.bind_some, inner]) N 0 (by omega) (by omega)
 exact this
theorem Y62 {a b : List Int} (ha : a.length <= 100000) (hb : b.length <= 100000) (hN : 1048576 < N) : Z6x N a b = some (setOf (a ++ b)) := by
 unfold Z6x
 rw [Y7q (by simp) (by simp; omega) hN, Option.bind_some]
 unfold Z8w Z7m
 have e : [a, b].flatten = a ++ b := by simp
 rw [e, decide_eq_true (by rw [List.length_append]; omega), grd_true]
 rfl
def validSet (n : Nat) (l : List Int) : Bool := decide (∀ j, j < l.length -> (decide (0 <= l.getD j 0 /\ l.getD j 0 <= (n : Int) - 1) && (decide (j = 0) || decide (l.getD (j - 1) 0 < l.getD j 0))) = true)
theorem Y7r {d : Db} {l : List Int} (h : SmallDb d) (hl : l.length <= 1048576) (hN : 1048576 < N) : Z93 N d l = some (validSet d.2.length l) := by
 have hf := h.facts
 unfold Z93 Z0bd
 rw [Y7 (n := l.length) (fun j => decide (0 <= l.getD j 0 /\ l.getD j 0 <= (d.2.length : Int) - 1) && (decide (j = 0) || decide (l.getD (j - 1) 0 < l.getD j 0))) (some false) (some true) (fun k i => Z7t N k l d.1 d.2 i)
  (fun k => by simp [Z7t, Z9k]) (fun k j hj => ?_) (by omega)]
 ·unfold validSet
  split
  ·rename_i h4; rw [decide_eq_true h4]
  ·rename_i h4; rw [decide_eq_false h4]
 ·have h1 : (j : Int) < (l.length : Int) := by omega
  simp only [Z7t, Z9k, h1, decide_true, cond_true, Y0 hj, grd_true, Y3 hj, l1In, Option.bind_some, Y2 hj, Y1 (j := j) (by omega), Y5 (show -9223372036854775808 <= (d.2.length : Int) - 1 by omega) (by omega)]
  cases decide (0 <= l[j] /\ l[j] <= (d.2.length : Int) - 1) with
  | false => rfl
  | true =>
   simp only [Bool.not_true, cond_false, Bool.true_and]
   by_cases h0 : j = 0
   ·subst h0; simp
   ·have h3 : (j : Int) > 0 := by omega
    have h4 : j - 1 < l.length := by omega
    simp only [h3, decide_true, cond_true, Yc (show 0 < j by omega) (by omega), Y0 h4, grd_true, Y3 h4, h0, decide_false, Bool.false_or, Y2 h4]
    by_cases h5 : l[j - 1] < l[j]
    ·have : ¬ l[j] <= l[j - 1] := by omega
     simp [h5, this]
    ·have : l[j] <= l[j - 1] := by omega
     simp [h5, this]
theorem Y30 {n : Nat} {l : List Int} (hn : n <= 1048576) (hl : l.length <= 1048576) (hN : 1048576 < N) : Z1y N l (n : Int) = some (validSet n l) := by
 unfold Z1y Z9x
 rw [Y7 (n := l.length) (fun j => decide (0 <= l.getD j 0 /\ l.getD j 0 <= (n : Int) - 1) && (decide (j = 0) || decide (l.getD (j - 1) 0 < l.getD j 0))) (some false) (some true) (fun k i => Z4p N k l (n : Int) l (l.length : Int) i)
  (fun k => by simp [Z4p, Z6v]) (fun k j hj => ?_) (by omega)]
 ·unfold validSet
  split
  ·rename_i h4; rw [decide_eq_true h4]
  ·rename_i h4; rw [decide_eq_false h4]
 ·have h1 : (j : Int) < (l.length : Int) := by omega
  simp only [Z4p, Z6v, h1, decide_true, cond_true, Y0 hj, grd_true, Y3 hj, Yf, Option.bind_some, Y2 hj, Y1 (j := j) (by omega), Y5 (show -9223372036854775808 <= (n : Int) - 1 by omega) (by omega)]
  cases decide (0 <= l[j] /\ l[j] <= (n : Int) - 1) with
  | false => rfl
  | true =>
   simp only [Bool.not_true, cond_false, Bool.true_and]
   by_cases h0 : j = 0
   ·subst h0; simp
   ·have h3 : (j : Int) > 0 := by omega
    have h4 : j - 1 < l.length := by omega
    simp only [h3, decide_true, cond_true, Yc (show 0 < j by omega) (by omega), Y0 h4, grd_true, Y3 h4, h0, decide_false, Bool.false_or, Y2 h4]
    by_cases h5 : l[j - 1] < l[j]
    ·have : ¬ l[j - 1] >= l[j] := by omega
     simp [h5, this]
    ·have : l[j - 1] >= l[j] := by omega
     simp [h5, this]
def toI (l : List Nat) : List Int := l.map fun (n : Nat) => (n : Int)
theorem Y52 (l : List Nat) : (toI l).length = l.length := by simp [toI]
theorem Y53 (a b : List Nat) : toI (a ++ b) = toI a ++ toI b := by simp [toI]
theorem Y54 (S : Nat -> Nat -> Bool) (n s : Nat) : (blk S n s).length <= n := by
 unfold blk
 exact Nat.le_trans (List.length_filter_le _ _) (Nat.le_of_eq List.length_range)
theorem Y55 (S : Nat -> Nat -> Bool) (n : Nat) : (sts S n).length <= n := by
 unfold sts
 exact Nat.le_trans (List.length_filter_le _ _) (Nat.le_of_eq List.length_range)
theorem Ya {d : Db} {k : Nat} (hk : k < d.2.length) : at_ (0, []) d.2 (k : Int) = factAt d k := by unfold factAt; rw [Y3 hk, Y2 hk]
theorem Yu {d : Db} (h : SmallDb d) {k : Nat} (hk : k < d.2.length) : (factAt d k).2.length <= 1048576 := by unfold factAt; rw [Y2 hk]; exact h.vals _ (List.getElem_mem hk)
theorem Y4j {d : Db} (h : SmallDb d) (hvb : validDb d = true) (hN : 1048576 < N) {i : Nat} (hi : i < d.2.length) : Z79 N d (i : Int) = some (toI (blk (sameD d) d.2.length i)) := by
 have hv := Y6 hvb
 have hf := hv.few
 unfold Z79 Z0ak
 have := loop (fun k (s : List Int × Nat) => Z6g N k (i : Int) d.1 d.2 s.1 (s.2 : Int)) (fun s => s.2 <= d.2.length /\ s.1 = toI (blk (sameD d) s.2 i)) (fun s => d.2.length - s.2) (fun o => o = some (toI (blk (sameD d) d.2.length i))) (fun k s hs => by
  obtain ⟨out, j⟩ := s
  obtain ⟨h1, h2⟩ := hs
  simp only at h1 h2 ⊢
  by_cases hj : j < d.2.length
  ·right
   have e1 : (j : Int) < (d.2.length : Int) := by omega
   have e2 : (0 : Int) <= (i : Int) /\ (i : Int) <= (d.2.length : Int) - 1 := by omega
   have e3 : validDb (d.1, d.2) = true := hvb
   have hlen : out.length <= 14 := by rw [h2, Y52]; have := Y54 (sameD d) j i; omega
   refine ⟨(toI (blk (sameD d) (j + 1) i), j + 1), ⟨hj, rfl⟩, by simp only; omega, ?_⟩
   simp only [Z6g, Z8k, e1, decide_true, cond_true, Yi (d := (d.1, d.2)) h hN, e3, Option.bind_some, l1In, Y5 (show -9223372036854775808 <= (d.2.length : Int) - 1 by omega) (by omega), e2, and_self, Y0 hi, Y0 hj, grd_true, Ya hi, Ya hj,
    Y41 h.rels (Yu h hi) (Yu h hj) hN hv.rels (hv.fact i hi) (hv.fact j hj), Y1 (j := j) (by omega)]
   rw [Y6z]
   cases hs : sameD d i j with
   | true =>
    have hs' : sameK d.1 (factAt d i) (factAt d j) = true := hs
    rw [hs', cond_true, Y4 (by omega) (by simp only [List.length_singleton]; omega), grd_true, if_pos rfl, Y53, h2]; rfl
   | false =>
    have hs' : sameK d.1 (factAt d i) (factAt d j) = false := hs
    rw [hs', cond_false, if_neg (by simp), List.append_nil, h2]
  ·left
   have : j = d.2.length := by omega
   subst this
   have e1 : ¬ (d.2.length : Int) < (d.2.length : Int) := by omega
   simp only [Z6g, Z8k, e1, decide_false, cond_false, h2]) N ([], 0) (by simp only; omega) ⟨by simp, by simp [blk, toI]⟩
 exact this
def blocksOf (d : Db) : List (List Int) := if validDb d then (B (sameD d) d.2.length).map toI else []
theorem Y56 {d : Db} (h : SmallDb d) (hN : 1048576 < N) : Z88 N d = some (blocksOf d) := by
 have hfs := h.facts
 unfold Z88 Z0az blocksOf
 cases hvb : validDb d with
 | false =>
  simp only [Bool.false_eq_true, if_false]
  obtain ⟨n, rfl⟩ : ∃ n, N = n + 1 := ⟨N - 1, by omega⟩
  simp only [Z5m, Z7a, Yi (d := (d.1, d.2)) h hN, show validDb (d.1, d.2) = false from hvb, Option.bind_some, cond_false]
  cases decide ((0 : Int) < (d.2.length : Int)) <;> rfl
 | true =>
  simp only [if_true]
  have hv := Y6 hvb
  have hf := hv.few
  have hR := runs hv
  have := loop (fun k (s : List (List Int) × Nat) => Z5m N k d.1 d.2 s.1 (s.2 : Int)) (fun s => s.2 <= d.2.length /\ s.1 = (((sts (sameD d) s.2).map (blk (sameD d) d.2.length)).map toI)) (fun s => d.2.length - s.2) (fun o => o = some ((B (sameD d) d.2.length).map toI)) (fun k s hs => by
   obtain ⟨out, j⟩ := s
   obtain ⟨h1, h2⟩ := hs
   simp only at h1 h2 ⊢
   by_cases hj : j < d.2.length
   ·right
    have e1 : (j : Int) < (d.2.length : Int) := by omega
    have e3 : validDb (d.1, d.2) = true := hvb
    have hlen : out.length <= 14 := by rw [h2, List.length_map, List.length_map]; have := Y55 (sameD d) j; omega
    obtain ⟨q, r, b1, b2, b3⟩ := Y70 (hR.refl j) hj
    have e4 : toI (blk (sameD d) d.2.length j) = (q : Int) :: toI r := by rw [b1]; rfl
    have e5 : inb 0 (toI (blk (sameD d) d.2.length j)) = true := by rw [e4]; exact Y0 (j := 0) (by simp)
    have e6 : at_ 0 (toI (blk (sameD d) d.2.length j)) 0 = (q : Int) := by rw [e4]; exact Y3 (j := 0) (by simp)
    refine ⟨((((sts (sameD d) (j + 1)).map (blk (sameD d) d.2.length)).map toI), j + 1), ⟨hj, rfl⟩, by simp only; omega, ?_⟩
    simp only [Z5m, Z7a, e1, decide_true, cond_true, Yi (d := (d.1, d.2)) h hN, e3, Option.bind_some, Y4j (d := (d.1, d.2)) h hvb hN (show j < (d.1, d.2).2.length from hj), Y1 (j := j) (by omega)]
    rw [show sameD (d.1, d.2) = sameD d from rfl, e5, grd_true, e6, beqI, Y6y]
    by_cases hst : isSt (sameD d) j = true
    ·have hq := b3.2 hst
     rw [if_pos hst, decide_eq_true (by rw [hq]), cond_true, Y4 (by omega) (by simp only [List.length_singleton]; omega), grd_true, List.map_append, List.map_append, <- h2]; rfl
    ·have hq : ¬ (q : Int) = (j : Int) := fun hc => hst (b3.1 (by omega))
     rw [if_neg hst, decide_eq_false hq, cond_false, List.append_nil, <- h2]
   ·left
    have : j = d.2.length := by omega
    subst this
    have e1 : ¬ (d.2.length : Int) < (d.2.length : Int) := by omega
    simp only [Z5m, Z7a, e1, decide_false, cond_false, h2]
    rfl) N ([], 0) (by simp only; omega) ⟨by simp, by simp [sts]⟩
  exact this
def one (p : Int -> Bool) (x : Int) : Int := if p x then 1 else 0
theorem Y16 {r : Rel} (h : validRel r = true) : 1 <= r.2.1 /\ r.2.1 <= 3 := by
 unfold validRel Z9 at h
 by_cases h1 : r.1.size = 1
 ·have hb : ∃ b, byteAt r.1 0 = some b := by
   unfold byteAt
   have : (0 : Int).toNat < r.1.size := by omega
   exact ⟨r.1[(0 : Int).toNat], by rw [if_pos (by omega), getElem?_pos]⟩
  obtain ⟨b, hb⟩ := hb
  rw [hb] at h
  simp only [Option.bind_some, l1In] at h
  by_cases h2 : 1 <= r.2.1 /\ r.2.1 <= 3
  ·exact h2
  ·rw [decide_eq_false h2] at h
   exfalso
   revert h
   cases ((r.1.size : Int) == 1) <;> cases decide ((b.toNat : Int) >= 97) <;> cases decide ((b.toNat : Int) <= 122) <;> simp
 ·have h0 : ((r.1.size : Int) == 1) = false := by rw [beqI]; simp; omega
  rw [h0] at h
  simp at h
abbrev Atm := Int × List Int
abbrev Qry := Int × List Atm × List Int
def arity (l : List Rel) (r : Int) : Int := (l.getD r.toNat (⟨#[]⟩, 0, 0)).2.1
def termsOk (n : Nat) (ts : List Int) : Bool := ts.all fun t => decide (-10 <= t /\ t <= (n : Int) - 1)
def atomAt (as : List Atm) (j : Nat) : Atm := as.getD j (0, [])
def newRel (as : List Atm) (j : Nat) : Bool := !((as.take j).any fun b => decide (b.1 = (atomAt as j).1))
def atomOk (l : List Rel) (n : Nat) (as : List Atm) (j : Nat) : Bool := decide (0 <= (atomAt as j).1 /\ (atomAt as j).1 <= (l.length : Int) - 1) && (decide (((atomAt as j).2.length : Int) = arity l (atomAt as j).1) && (newRel as j && termsOk n (atomAt as j).2))
def occB (as : List Atm) (v : Int) : Bool := as.any fun a => decide (v ∈ a.2)
def allOcc (n : Nat) (as : List Atm) : Bool := decide (∀ v, v < n -> occB as (v : Int) = true)
def atomsOk (l : List Rel) (n : Nat) (as : List Atm) : Bool := decide (∀ j, j < as.length -> atomOk l n as j = true)
def validQ (l : List Rel) (q : Qry) : Bool := validRels l && (decide (0 <= q.1 /\ q.1 <= 4) && (decide (1 <= (q.2.1.length : Int) /\ (q.2.1.length : Int) <= 3) && (atomsOk l q.1.toNat q.2.1 && (allOcc q.1.toNat q.2.1 && validSet q.1.toNat q.2.2))))
theorem Y2j {l : List Rel} {r : Int} (hv : validRels l = true) (h : 0 <= r /\ r <= (l.length : Int) - 1) : 1 <= arity l r /\ arity l r <= 3 := Y16 (Yk hv (j := r.toNat) (by omega))
def metL (f : Nat -> Bool) : List Bool := [f 0, f 1, f 2, f 3]
theorem Y4r {f : Nat -> Bool} {v : Nat} (h : v < 4) : inb (v : Int) (metL f) = true /\ at_ false (metL f) (v : Int) = f v := by
 have hl : v < (metL f).length := h
 refine ⟨Y0 hl, ?_⟩
 rw [Y3 hl]
 match v, h with
 | 0, _ => rfl
 | 1, _ => rfl
 | 2, _ => rfl
 | 3, _ => rfl
theorem Y73 {f : Nat -> Bool} {t : Nat} (h : t < 4) : (metL f).set t true = metL fun v => f v || decide (v = t) := by
 match t, h with
 | 0, _ => simp [metL]
 | 1, _ => simp [metL]
 | 2, _ => simp [metL]
 | 3, _ => simp [metL]
theorem Y1n {f g : Nat -> Bool} (h : ∀ v, f v = g v) : metL f = metL g := by
 unfold metL
 rw [h 0, h 1, h 2, h 3]
theorem Y63 {N n : Nat} {l : List Rel} {as : List Atm} {fr : List Int} {j : Nat} {a : Int} {ts : List Int} (hn : n <= 4) (hts : ts.length <= 3) (hN : 1048576 < N) (R : List Rel -> Int -> List Atm -> List Int -> List Bool -> Int -> Option Bool) (f : Nat -> Bool) :
  Z1v R N N l (n : Int) as fr (metL f) (j : Int) a ts 0 = if termsOk n ts then R l (n : Int) as fr (metL fun v => f v || decide ((v : Int) ∈ ts)) (w64 ((j : Int) + 1)) else some false := by
 have := loop (fun k (q : Nat) => Z1v R N k l (n : Int) as fr (metL fun v => f v || decide ((v : Int) ∈ ts.take q)) (j : Int) a ts (q : Int)) (fun q => q <= ts.length /\ termsOk n (ts.take q) = true) (fun q => ts.length - q) (fun o => o = if termsOk n ts then R l (n : Int) as fr (metL fun v => f v || decide ((v : Int) ∈ ts)) (w64 ((j : Int) + 1)) else some false) (fun k q hs => by
  obtain ⟨hq', hok⟩ := hs
  simp only [Z1v, Z86]
  by_cases hq : q < ts.length
  ·have e1 : (q : Int) < (ts.length : Int) := by omega
   simp only [e1, decide_true, cond_true, Y0 hq, grd_true, Y3 hq, l1In, Option.bind_some, Y5 (x := (n : Int) - 1) (by omega) (by omega), Y1 (j := q) (by omega)]
   by_cases ht : -10 <= ts[q] /\ ts[q] <= (n : Int) - 1
   ·right
    have hok2 : termsOk n (ts.take (q + 1)) = true := by
     unfold termsOk at *
     rw [List.take_succ_eq_append_getElem hq, List.all_append, hok]
     simp [ht]
    refine ⟨q + 1, ⟨hq, hok2⟩, by omega, ?_⟩
    rw [decide_eq_true ht, Bool.not_true, cond_false]
    by_cases h0 : ts[q] >= 0
    ·obtain ⟨t, e⟩ : ∃ t : Nat, ts[q] = (t : Int) := ⟨ts[q].toNat, by omega⟩
     have ht4 : t < 4 := by omega
     rw [decide_eq_true h0, cond_true, e, (Y4r ht4).1, grd_true, grd_true, letv_eq, Int.toNat_natCast, Y73 ht4]
     congr 1
     refine Y1n fun v => ?_
     rw [List.take_succ_eq_append_getElem hq, e]
     have : decide ((v : Int) ∈ ts.take q ++ [(t : Int)]) = (decide ((v : Int) ∈ ts.take q) || decide (v = t)) := by
      rw [Bool.eq_iff_iff]
      simp only [decide_eq_true_eq, Bool.or_eq_true, List.mem_append, List.mem_singleton]
      constructor
      ·rintro (h | h)
       ·exact .inl h
       ·exact .inr (by omega)
      ·rintro (h | h)
       ·exact .inl h
       ·exact .inr (by omega)
     rw [this, Bool.or_assoc]
    ·rw [decide_eq_false h0, cond_false]
     congr 1
     refine Y1n fun v => ?_
     rw [List.take_succ_eq_append_getElem hq]
     have : decide ((v : Int) ∈ ts.take q ++ [ts[q]]) = decide ((v : Int) ∈ ts.take q) := by
      rw [decide_eq_decide]
      simp only [List.mem_append, List.mem_singleton]
      constructor
      ·rintro (h | h)
       ·exact h
       ·omega
      ·exact .inl
     rw [this]
   ·left
    have : termsOk n ts = false := by
     rw [Bool.eq_false_iff]
     intro h
     unfold termsOk at h
     exact ht (of_decide_eq_true (List.all_eq_true.1 h _ (List.getElem_mem hq)))
    rw [decide_eq_false ht, Bool.not_false, cond_true, this]
    rfl
  ·left
   have : q = ts.length := by omega
   subst this
   rw [List.take_length] at hok
   simp only [Int.lt_irrefl, decide_false, cond_false, List.take_length, hok, if_true]) N 0 (by omega) (by simp [termsOk])
 simpa using this
theorem Y7s {N n : Nat} {l : List Rel} {as : List Atm} {fr : List Int} {met : List Bool} {j : Nat} {ts : List Int} (has : as.length <= 3) (hj : j < as.length) (hN : 1048576 < N) (R : List Rel -> Int -> List Atm -> List Int -> List Bool -> Int -> Option Bool) :
  Z2i R N N l (n : Int) as fr met (j : Int) (atomAt as j).1 ts 0 = if newRel as j then Z1v R N N l (n : Int) as fr met (j : Int) (atomAt as j).1 ts 0 else some false := by
 have := Y7 (n := j) (fun k => !decide ((atomAt as k).1 = (atomAt as j).1)) (some false) (Z1v R N N l (n : Int) as fr met (j : Int) (atomAt as j).1 ts 0) (fun k i => Z2i R N k l (n : Int) as fr met (j : Int) (atomAt as j).1 ts i) (fun k => by simp only [Z2i, Z5w, Int.lt_irrefl, decide_false, cond_false]) (fun k i hi => by
  have h1 : (i : Int) < (j : Int) := by omega
  have h2 : i < as.length := by omega
  simp only [Z2i, Z5w, h1, decide_true, cond_true, Y0 h2, grd_true, Y3 h2, Y1 (j := i) (by omega), beqI]
  have e : atomAt as i = as[i] := Y2 h2
  rw [e]
  by_cases hh : as[i].1 = (atomAt as j).1
  ·simp [hh]
  ·simp [hh]) (k := N) (by omega)
 rw [this]
 have e : newRel as j = decide (∀ i, i < j -> (!decide ((atomAt as i).1 = (atomAt as j).1)) = true) := by
  unfold newRel
  rw [Bool.eq_iff_iff, decide_eq_true_eq, Bool.not_eq_true', List.any_eq_false]
  constructor
  ·intro h i hi
   have hm : atomAt as i ∈ as.take j := by
    rw [show atomAt as i = as[i]'(by omega) from Y2 (by omega)]
    rw [List.mem_iff_getElem]
    exact ⟨i, by rw [List.length_take]; omega, by rw [List.getElem_take]⟩
   have := h _ hm
   simpa using this
  ·intro h b hb
   obtain ⟨i, hi, rfl⟩ := List.mem_iff_getElem.1 hb
   have hi2 : i < j := by rw [List.length_take] at hi; omega
   rw [List.getElem_take]
   have := h i hi2
   rw [show atomAt as i = as[i]'(by omega) from Y2 (by omega)] at this
   simpa using this
 rw [e]
 by_cases hh : ∀ i, i < j -> (!decide ((atomAt as i).1 = (atomAt as j).1)) = true
 ·rw [if_pos hh, decide_eq_true hh, if_pos rfl]
 ·rw [if_neg hh, decide_eq_false hh]
  rfl
theorem Y7t {N n : Nat} {as : List Atm} {fr : List Int} {f : Nat -> Bool} (hn : n <= 4) (hfr : fr.length <= 1048576) (hN : 1048576 < N) :
  Z2k N N (n : Int) as fr (metL f) 0 = some (decide (∀ v, v < n -> f v = true) && validSet n fr) := by
 have h4 : Z2j N N (n : Int) as fr 0 = some (validSet n fr) := by
  rw [Y7 (n := fr.length) (fun j => decide (0 <= fr.getD j 0 /\ fr.getD j 0 <= (n : Int) - 1) && (decide (j = 0) || decide (fr.getD (j - 1) 0 < fr.getD j 0))) (some false) (some true) (fun k i => Z2j N k (n : Int) as fr i)
   (fun k => by simp [Z2j, Z5x]) (fun k j hj => ?_) (by omega)]
  ·unfold validSet
   split
   ·rename_i h4; rw [decide_eq_true h4]
   ·rename_i h4; rw [decide_eq_false h4]
  ·have h1 : (j : Int) < (fr.length : Int) := by omega
   simp only [Z2j, Z5x, h1, decide_true, cond_true, Y0 hj, grd_true, Y3 hj, l1In, Option.bind_some, Y2 hj, Y1 (j := j) (by omega), Y5 (show -9223372036854775808 <= (n : Int) - 1 by omega) (by omega)]
   cases decide (0 <= fr[j] /\ fr[j] <= (n : Int) - 1) with
   | false => rfl
   | true =>
    simp only [Bool.not_true, cond_false, Bool.true_and]
    by_cases h0 : j = 0
    ·subst h0; simp
    ·have h3 : (j : Int) > 0 := by omega
     have h4 : j - 1 < fr.length := by omega
     simp only [h3, decide_true, cond_true, Yc (show 0 < j by omega) (by omega), Y0 h4, grd_true, Y3 h4, h0, decide_false, Bool.false_or, Y2 h4]
     by_cases h5 : fr[j - 1] < fr[j]
     ·have : ¬ fr[j] <= fr[j - 1] := by omega
      simp [h5, this]
     ·have : fr[j] <= fr[j - 1] := by omega
      simp [h5, this]
 rw [Y7 (n := n) f (some false) (some (validSet n fr)) (fun k i => Z2k N k (n : Int) as fr (metL f) i) (fun k => by simp only [Z2k, Z5y, Int.lt_irrefl, decide_false, cond_false, h4]) (fun k j hj => ?_) (by omega)]
 ·split
  ·rename_i h; rw [decide_eq_true h, Bool.true_and]
  ·rename_i h; rw [decide_eq_false h, Bool.false_and]
 ·have h1 : (j : Int) < (n : Int) := by omega
  obtain ⟨m1, m2⟩ := Y4r (f := f) (show j < 4 by omega)
  simp only [Z2k, Z5y, h1, decide_true, cond_true, m1, grd_true, m2, Y1 (j := j) (by omega)]
  cases f j <;> simp
theorem Y43 {as : List Atm} {j : Nat} (hj : j < as.length) (v : Int) : occB (as.take (j + 1)) v = (occB (as.take j) v || decide (v ∈ (atomAt as j).2)) := by
 unfold occB
 rw [List.take_succ_eq_append_getElem hj, List.any_append, show atomAt as j = as[j] from Y2 hj]
 simp
theorem Y64 {l : List Rel} {q : Qry} (hl : l.length <= 1048576) (hq : q.2.2.length <= 1048576) (hN : 1048576 < N) : Z3x N l q = some (validQ l q) := by
 obtain ⟨n, as, fr⟩ := q
 simp only at hq
 unfold Z3x Z9d validQ
 rw [Y1l hl hN, Option.bind_some, l1In, l1In]
 cases hv : validRels l with
 | false => rfl
 | true =>
  by_cases hn : 0 <= n /\ n <= 4
  ·by_cases ha : 1 <= (as.length : Int) /\ (as.length : Int) <= 3
   ·obtain ⟨n, rfl⟩ : ∃ m : Nat, n = (m : Int) := ⟨n.toNat, by omega⟩
    simp only [Bool.not_true, cond_false, Option.bind_some, decide_eq_true hn, decide_eq_true ha, Bool.true_and, Int.toNat_natCast]
    rw [show makeOk 4 1 = true from rfl, grd_true]
    have hl4 : l.length <= 4 := (of_decide_eq_true hv).2
    have := loop (fun k (j : Nat) => Z3n N k l (n : Int) as fr (metL fun v => occB (as.take j) (v : Int)) (j : Int)) (fun j => j <= as.length /\ ∀ i, i < j -> atomOk l n as i = true) (fun j => as.length - j) (fun o => o = some (atomsOk l n as && (allOcc n as && validSet n fr))) (fun k j hs => by
     obtain ⟨hj', hok⟩ := hs
     simp only [Z3n, Z87]
     by_cases hj : j < as.length
     ·have e1 : (j : Int) < (as.length : Int) := by omega
      have ea : atomAt as j = as[j] := Y2 hj
      have bad : atomOk l n as j = false -> some false = some (atomsOk l n as && (allOcc n as && validSet n fr)) := fun h => by
       have : atomsOk l n as = false := by
        unfold atomsOk
        rw [decide_eq_false_iff_not]
        intro hh
        have := hh j hj
        rw [h] at this
        cases this
       rw [this]; rfl
      simp only [e1, decide_true, cond_true, Y0 hj, grd_true, Y3 hj, l1In, Option.bind_some, Y5 (x := (l.length : Int) - 1) (by omega) (by omega), <- ea]
      by_cases c1 : 0 <= (atomAt as j).1 /\ (atomAt as j).1 <= (l.length : Int) - 1
      ·obtain ⟨ar1, ar2⟩ := Y2j hv c1
       rw [decide_eq_true c1, Bool.not_true, cond_false, Y8 c1.1 (by omega), grd_true, bneI]
       rw [show (at_ (⟨#[]⟩, (0, 0)) l (atomAt as j).1).2.1 = arity l (atomAt as j).1 from rfl]
       by_cases c2 : ((atomAt as j).2.length : Int) = arity l (atomAt as j).1
       ·rw [decide_eq_true c2, Bool.not_true, cond_false, Y7s (by omega) hj hN]
        cases c3 : newRel as j with
        | false =>
         left
         exact bad (by unfold atomOk; rw [c3, Bool.false_and, Bool.and_false, Bool.and_false])
        | true =>
         rw [if_pos rfl, Y63 (by omega) (by omega) hN]
         cases c4 : termsOk n (atomAt as j).2 with
         | false =>
          left
          exact bad (by unfold atomOk; rw [c4, Bool.and_false, Bool.and_false, Bool.and_false])
         | true =>
          right
          refine ⟨j + 1, ⟨hj, fun i hi => ?_⟩, by omega, ?_⟩
          ·by_cases e : i = j
           ·subst e
            unfold atomOk
            rw [decide_eq_true c1, decide_eq_true c2, c3, c4]; rfl
           ·exact hok i (by omega)
          ·rw [if_pos rfl, Y1 (by omega)]
           congr 1
           exact Y1n fun v => (Y43 hj (v : Int)).symm
       ·left
        rw [decide_eq_false c2, Bool.not_false, cond_true]
        exact bad (by unfold atomOk; rw [decide_eq_false c2, Bool.false_and, Bool.and_false])
      ·left
       rw [decide_eq_false c1, Bool.not_false, cond_true]
       exact bad (by unfold atomOk; rw [decide_eq_false c1, Bool.false_and])
     ·left
      have : j = as.length := by omega
      subst this
      have hao : atomsOk l n as = true := decide_eq_true hok
      simp only [Int.lt_irrefl, decide_false, cond_false, Y7t (show n <= 4 by omega) hq hN, List.take_length, hao, Bool.true_and]
      rfl) N 0 (by omega) ⟨by omega, fun i hi => by omega⟩
    exact this
   ·simp [hn, ha]
  ·simp [hn]
theorem Y7u {as : List Atm} {a : Atm} (has : as.length <= 1000) (hN : 1048576 < N) : Z5 N as a = some (as.any fun b => decide (b.1 = a.1)) := by
 unfold Z5 Z0b Z1z
 rw [Yp (d := ((0, []) : Atm)) (xs := as) (p := fun b => decide (b.1 = a.1)) (first (n := as.length) (fun j => decide ((as.getD j (0, [])).1 = a.1)) (fun k i => Z8 N k as a (as.length : Int) i) (fun k => by simp [Z8, Z0p]) (fun k j hj => ?_) (by omega))]
 have h1 : (j : Int) < (as.length : Int) := by omega
 simp only [Z8, Z0p, Z3t, h1, decide_true, cond_true, Y0 hj, grd_true, Y3 hj, Y2 hj, Option.bind_some, Y1 (j := j) (by omega), beqI]
 cases decide (as[j].1 = a.1) <;> rfl
def varsIn (ts : List Int) : List Int := ts.filter fun t => decide (0 <= t /\ t <= 3)
theorem Y74 {a : Atm} (ha : a.2.length <= 1000) (hN : 1048576 < N) : Z3g N a = some (setOf (varsIn a.2)) := by
 unfold Z3g Z96 varsIn
 have := loop (fun k (q : Nat) => Z4q N k ((a.2.take q).filter fun t => decide (0 <= t /\ t <= 3)) a.2 (a.2.length : Int) (q : Int)) (fun q => q <= a.2.length) (fun q => a.2.length - q) (fun o => o = some (setOf (a.2.filter fun t => decide (0 <= t /\ t <= 3)))) (fun k q hq' => by
  simp only [Z4q, Z7q]
  by_cases hq : q < a.2.length
  ·right
   refine ⟨q + 1, hq, by omega, ?_⟩
   have h1 : (q : Int) < (a.2.length : Int) := by omega
   have hl := List.length_filter_le (fun t => decide (0 <= t /\ t <= 3)) (a.2.take q)
   rw [List.length_take] at hl
   simp only [h1, decide_true, cond_true, Y0 hq, grd_true, Y3 hq, Yf, Option.bind_some, Y1 (j := q) (by omega)]
   rw [List.take_succ_eq_append_getElem hq, List.filter_append]
   by_cases ht : 0 <= a.2[q] /\ a.2[q] <= 3
   ·rw [decide_eq_true ht, cond_true, Y4 (by omega) (by simp only [List.length_singleton]; omega), grd_true]
    simp [ht]
   ·rw [decide_eq_false ht, cond_false]
    simp [ht]
  ·left
   have : q = a.2.length := by omega
   subst this
   have hl := List.length_filter_le (fun t => decide (0 <= t /\ t <= 3)) a.2
   simp only [Int.lt_irrefl, decide_false, cond_false, List.take_length]
   rw [Y62 (by omega) (by simp) hN, Option.bind_some, List.append_nil]) N 0 (by omega) (by omega)
 simpa using this
def varsOf (as : List Atm) : List Int := ((List.range 4).filter fun (v : Nat) => occB as (v : Int)).map fun (v : Nat) => (v : Int)
theorem Y2u {as : List Atm} {x : Int} : x ∈ varsOf as ↔ (0 <= x /\ x <= 3) /\ occB as x = true := by
 unfold varsOf
 rw [List.mem_map]
 constructor
 ·rintro ⟨v, hv, rfl⟩
  obtain ⟨h1, h2⟩ := List.mem_filter.1 hv
  have := List.mem_range.1 h1
  exact ⟨by omega, h2⟩
 ·rintro ⟨h1, h2⟩
  exact ⟨x.toNat, List.mem_filter.2 ⟨List.mem_range.2 (by omega), by rw [show ((x.toNat : Nat) : Int) = x by omega]; exact h2⟩, by omega⟩
theorem Y3m (as : List Atm) : (varsOf as).Pairwise (· < ·) := by
 unfold varsOf
 rw [List.pairwise_map]
 exact (List.Pairwise.filter _ List.pairwise_lt_range).imp fun h => by omega
theorem Y57 (as : List Atm) : (varsOf as).length <= 4 := by
 unfold varsOf
 rw [List.length_map]
 have := List.length_filter_le (fun v : Nat => occB as (v : Int)) (List.range 4)
 rwa [List.length_range] at this
theorem Y4k {as : List Atm} {j : Nat} (hj : j < as.length) : setOf (varsOf (as.take j) ++ setOf (varsIn (atomAt as j).2)) = varsOf (as.take (j + 1)) := by
 refine Y2t (Y42 _) (Y3m _) fun x => ?_
 rw [Y34, List.mem_append, Y34, Y2u, Y2u, Y43 hj]
 unfold varsIn
 rw [List.mem_filter, decide_eq_true_eq, Bool.or_eq_true, decide_eq_true_eq]
 constructor
 ·rintro (⟨h1, h2⟩ | ⟨h1, h2⟩)
  ·exact ⟨h1, .inl h2⟩
  ·exact ⟨h2, .inr h1⟩
 ·rintro ⟨h1, h2 | h2⟩
  ·exact .inl ⟨h1, h2⟩
  ·exact .inr ⟨h2, h1⟩
theorem Y58 {n : Nat} {as : List Atm} (hn : n <= 4) (hok : ∀ j, j < as.length -> termsOk n (atomAt as j).2 = true) : decide (((varsOf as).length : Int) = (n : Int)) = allOcc n as := by
 have hlt : ∀ v : Int, occB as v = true -> v <= (n : Int) - 1 := by
  intro v hv
  unfold occB at hv
  obtain ⟨a, ha, hva⟩ := List.any_eq_true.1 hv
  obtain ⟨j, hj, rfl⟩ := List.mem_iff_getElem.1 ha
  have := hok j hj
  rw [show atomAt as j = as[j] from Y2 hj] at this
  unfold termsOk at this
  exact (of_decide_eq_true (List.all_eq_true.1 this v (of_decide_eq_true hva))).2
 have e : (varsOf as).length = ((List.range n).filter fun (v : Nat) => occB as (v : Int)).length := by
  unfold varsOf
  rw [List.length_map]
  have e4 : List.range 4 = List.range n ++ (List.range (4 - n)).map (n + ·) := by
   rw [<- List.range_add, show n + (4 - n) = 4 by omega]
  rw [e4, List.filter_append, List.length_append]
  have : ((List.range (4 - n)).map (n + ·)).filter (fun v : Nat => occB as (v : Int)) = [] := by
   rw [List.filter_eq_nil_iff]
   intro v hv
   obtain ⟨k, _, rfl⟩ := List.mem_map.1 hv
   intro h
   have := hlt _ h
   omega
  rw [this]; rfl
 rw [e]
 unfold allOcc
 rw [decide_eq_decide]
 have hl := List.length_filter_le (fun v : Nat => occB as (v : Int)) (List.range n)
 rw [List.length_range] at hl
 constructor
 ·intro h v hv
  have h2 : ((List.range n).filter fun v : Nat => occB as (v : Int)).length = (List.range n).length := by rw [List.length_range]; omega
  exact List.length_filter_eq_length_iff.1 h2 v (List.mem_range.2 hv)
 ·intro h
  have h2 : ((List.range n).filter fun v : Nat => occB as (v : Int)).length = (List.range n).length := List.length_filter_eq_length_iff.2 fun v hv => h v (List.mem_range.1 hv)
  rw [h2, List.length_range]
theorem Y65 {N n : Nat} {l : List Rel} {as : List Atm} {fr occ : List Int} {j : Nat} {a : Int} {ts : List Int} (hn : n <= 4) (hts : ts.length <= 3) (ho : occ.length <= 4) (hN : 1048576 < N) (R : List Rel -> Int -> List Atm -> List Int -> List Int -> List Atm -> Int -> Int -> Option Bool) :
  Z2q R N N l (n : Int) as fr occ a ts as (as.length : Int) (j : Int) ts (ts.length : Int) 0 = if termsOk n ts then R l (n : Int) as fr (setOf (occ ++ setOf (varsIn ts))) as (as.length : Int) (w64 ((j : Int) + 1)) else some false := by
 have hv := Y74 (N := N) (a := (a, ts)) (show ts.length <= 1000 by omega) hN
 have hl1 : (varsIn ts).length <= 3 := Nat.le_trans (List.length_filter_le _ _) hts
 have hl2 := Y61 (varsIn ts)
 have hu := Y62 (N := N) (a := occ) (b := setOf (varsIn ts)) (by omega) (by omega) hN
 rw [Y7 (n := ts.length) (fun k => decide (-10 <= ts.getD k 0 /\ ts.getD k 0 <= (n : Int) - 1)) (some false) (R l (n : Int) as fr (setOf (occ ++ setOf (varsIn ts))) as (as.length : Int) (w64 ((j : Int) + 1))) (fun k i => Z2q R N k l (n : Int) as fr occ a ts as (as.length : Int) (j : Int) ts (ts.length : Int) i) (fun k => by
  simp only [Z2q, Z5z, Int.lt_irrefl, decide_false, cond_false, hv, hu, Option.bind_some]) (fun k i hi => by
  have h1 : (i : Int) < (ts.length : Int) := by omega
  simp only [Z2q, Z5z, h1, decide_true, cond_true, Y0 hi, grd_true, Y3 hi, Yf, Option.bind_some, Y5 (x := (n : Int) - 1) (by omega) (by omega), Y2 hi, Y1 (j := i) (by omega)]
  cases decide (-10 <= ts[i] /\ ts[i] <= (n : Int) - 1) <;> simp) (by omega)]
 have e : termsOk n ts = decide (∀ k, k < ts.length -> decide (-10 <= ts.getD k 0 /\ ts.getD k 0 <= (n : Int) - 1) = true) := by
  unfold termsOk
  rw [Bool.eq_iff_iff, decide_eq_true_eq]
  exact (Y2y (d := (0 : Int)) (p := fun t => decide (-10 <= t /\ t <= (n : Int) - 1))).symm
 rw [e]
 by_cases h : ∀ k, k < ts.length -> decide (-10 <= ts.getD k 0 /\ ts.getD k 0 <= (n : Int) - 1) = true
 ·rw [if_pos h, decide_eq_true h, if_pos rfl]
 ·rw [if_neg h, decide_eq_false h]; rfl
theorem Y66 {l : List Rel} {q : Qry} (hl : l.length <= 1048576) (hq : q.2.2.length <= 1048576) (hN : 1048576 < N) : Z3z N l q = some (validQ l q) := by
 obtain ⟨n, as, fr⟩ := q
 simp only at hq
 unfold Z3z Z9f validQ
 rw [Y3x hl hN, Option.bind_some, Yf, Yf]
 cases hv : validRels l with
 | false => rfl
 | true =>
  by_cases hn : 0 <= n /\ n <= 4
  ·by_cases ha : 1 <= (as.length : Int) /\ (as.length : Int) <= 3
   ·obtain ⟨n, rfl⟩ : ∃ m : Nat, n = (m : Int) := ⟨n.toNat, by omega⟩
    simp only [Bool.not_true, cond_false, Option.bind_some, decide_eq_true hn, decide_eq_true ha, Bool.true_and, Int.toNat_natCast]
    rw [Y30 (by omega) hq hN, Option.bind_some]
    cases hfs : validSet n fr with
    | false => rw [Bool.and_false, Bool.and_false]; rfl
    | true =>
     rw [Bool.not_true, cond_false, Bool.and_true]
     have hl4 : l.length <= 4 := (of_decide_eq_true hv).2
     have := loop (fun k (j : Nat) => Z3u N k l (n : Int) as fr (varsOf (as.take j)) as (as.length : Int) (j : Int)) (fun j => j <= as.length /\ ∀ i, i < j -> atomOk l n as i = true) (fun j => as.length - j) (fun o => o = some (atomsOk l n as && allOcc n as)) (fun k j hs => by
      obtain ⟨hj', hok⟩ := hs
      simp only [Z3u, Z8b]
      by_cases hj : j < as.length
      ·have e1 : (j : Int) < (as.length : Int) := by omega
       have ea : atomAt as j = as[j] := Y2 hj
       have bad : atomOk l n as j = false -> some false = some (atomsOk l n as && allOcc n as) := fun h => by
        have : atomsOk l n as = false := by
         unfold atomsOk
         rw [decide_eq_false_iff_not]
         intro hh
         have := hh j hj
         rw [h] at this
         cases this
        rw [this]; rfl
       simp only [e1, decide_true, cond_true, Y0 hj, grd_true, Y3 hj, Yf, Option.bind_some, Y5 (x := (l.length : Int) - 1) (by omega) (by omega), <- ea]
       by_cases c1 : 0 <= (atomAt as j).1 /\ (atomAt as j).1 <= (l.length : Int) - 1
       ·obtain ⟨ar1, ar2⟩ := Y2j hv c1
        rw [decide_eq_true c1, Bool.not_true, cond_false, Y8 c1.1 (by omega), grd_true, bneI]
        rw [show (at_ (⟨#[]⟩, (0, 0)) l (atomAt as j).1).2.1 = arity l (atomAt as j).1 from rfl]
        by_cases c2 : ((atomAt as j).2.length : Int) = arity l (atomAt as j).1
        ·rw [decide_eq_true c2, Bool.not_true, cond_false, Yt (by omega) (by omega) (by omega), grd_true, Int.toNat_natCast, Y7u (by rw [List.length_take]; omega) hN, Option.bind_some]
         rw [show ((as.take j).any fun b => decide (b.1 = (atomAt as j).1)) = !newRel as j from by unfold newRel; rw [Bool.not_not]]
         cases c3 : newRel as j with
         | false =>
          left
          exact bad (by unfold atomOk; rw [c3, Bool.false_and, Bool.and_false, Bool.and_false])
         | true =>
          rw [Bool.not_true, cond_false, Y65 (by omega) (by omega) (Y57 _) hN]
          cases c4 : termsOk n (atomAt as j).2 with
          | false =>
           left
           exact bad (by unfold atomOk; rw [c4, Bool.and_false, Bool.and_false, Bool.and_false])
          | true =>
           right
           refine ⟨j + 1, ⟨hj, fun i hi => ?_⟩, by omega, ?_⟩
           ·by_cases e : i = j
            ·subst e
             unfold atomOk
             rw [decide_eq_true c1, decide_eq_true c2, c3, c4]; rfl
            ·exact hok i (by omega)
           ·rw [if_pos rfl, Y1 (by omega), Y4k hj]
        ·left
         rw [decide_eq_false c2, Bool.not_false, cond_true]
         exact bad (by unfold atomOk; rw [decide_eq_false c2, Bool.false_and, Bool.and_false])
       ·left
        rw [decide_eq_false c1, Bool.not_false, cond_true]
        exact bad (by unfold atomOk; rw [decide_eq_false c1, Bool.false_and])
      ·left
       have : j = as.length := by omega
       subst this
       have hao : atomsOk l n as = true := decide_eq_true hok
       have ht : ∀ j, j < as.length -> termsOk n (atomAt as j).2 = true := fun j hj => by
        have := hok j hj
        unfold atomOk at this
        simp only [Bool.and_eq_true] at this
        exact this.2.2.2
       simp only [Int.lt_irrefl, decide_false, cond_false, List.take_length, hao, Bool.true_and, beqI]
       rw [Y58 (by omega) ht]) N 0 (by omega) ⟨by omega, fun i hi => by omega⟩
     have e0 : varsOf (as.take 0) = [] := by unfold varsOf occB; simp
     simp only [e0] at this
     exact this
   ·simp [hn, ha]
  ·simp [hn]
def queryFor (d : Db) (q : Qry) : Bool := validDb d && validQ d.1 q
theorem Y1v {d : Db} {q : Qry} (h : SmallDb d) (hq : q.2.2.length <= 1048576) (hN : 1048576 < N) : Z2c N d q = some (queryFor d q) := by
 unfold Z2c queryFor
 rw [Yi h hN, Option.bind_some]
 cases validDb d with
 | false => rfl
 | true => rw [cond_true, Y64 h.rels hq hN]; rfl
theorem Y1w {d : Db} {q : Qry} (h : SmallDb d) (hq : q.2.2.length <= 1048576) (hN : 1048576 < N) : Z2d N d q = some (queryFor d q) := by
 unfold Z2d queryFor
 rw [Y1u h hN, Option.bind_some]
 cases validDb d with
 | false => rfl
 | true => rw [cond_true, Y66 h.rels hq hN]; rfl
theorem Y10 {β R : Type} {n m B lo : Nat} (piece : Nat -> List β) {f : Nat -> List β -> Int -> Option R} {g : List β -> Option R} (hp : ∀ j, (piece j).length <= m) (hend : ∀ k out, f (k + 1) out (n : Int) = g out)
  (hstep : ∀ k out j, lo <= j -> j < n -> out.length <= B -> f (k + 1) out (j : Int) = f k (out ++ piece j) ((j + 1 : Nat) : Int)) : ∀ {k j : Nat} {out : List β}, n - j < k -> lo <= j -> j <= n -> out.length + (n - j) * m <= B -> f k out (j : Int) = g (out ++ (List.range' j (n - j)).flatMap piece)
 | 0, j, out, hk, hlo, hj, hB => by omega
 | k + 1, j, out, hk, hlo, hj, hB => by
  by_cases h : j < n
  ·have e : n - j = (n - (j + 1)) + 1 := by omega
   rw [e, Nat.add_mul] at hB
   have := hp j
   rw [hstep k out j hlo h (by omega), Y10 piece hp hend hstep (by omega) (by omega) (by omega) (by rw [List.length_append]; omega)]
   rw [e, List.range'_succ, List.flatMap_cons, List.append_assoc]
  ·have : j = n := by omega
   subst this
   rw [hend, Nat.sub_self]; simp
abbrev Con := Int × Int × Int × Int × Int × Int × Int
def arOf (d : Db) (r : Int) : Int := (d.1.getD r.toNat (⟨#[]⟩, 0, 0)).2.1
def inR (x a b : Int) : Bool := decide (a <= x /\ x <= b)
def conOk (d : Db) (x : Con) : Bool := inR x.1 0 ((d.1.length : Int) - 1) && (inR x.2.1 0 ((d.1.length : Int) - 1) && (inR x.2.2.1 0 (arOf d x.1 - 1) && (inR x.2.2.2.2.1 0 (arOf d x.1 - 1) && (inR x.2.2.2.1 0 (arOf d x.2.1 - 1) && (inR x.2.2.2.2.2.1 0 (arOf d x.2.1 - 1) && inR x.2.2.2.2.2.2 1 2)))))
theorem Yj {x a b : Int} (h : inR x a b = true) : a <= x /\ x <= b := by simpa [inR] using h
theorem Y4s {d : Db} {x : Con} (h : SmallDb d) (hvb : validDb d = true) (hN : 1048576 < N) : Z18 N d x = some (conOk d x) := by
 have hr := h.rels
 have hv := Y6 hvb
 unfold Z18 conOk
 rw [Yi h hN, hvb, Option.bind_some]
 simp only [Bool.not_true, cond_false, l1In, Option.bind_some]
 rw [Y5 (x := (d.1.length : Int) - 1) (by omega) (by omega)]
 rw [show ∀ a b c : Int, decide (a <= b /\ b <= c) = inR b a c from fun _ _ _ => rfl, show ∀ a b c : Int, decide (a <= b /\ b <= c) = inR b a c from fun _ _ _ => rfl]
 cases h1 : inR x.1 0 ((d.1.length : Int) - 1) with
 | false => rfl
 | true =>
  cases h2 : inR x.2.1 0 ((d.1.length : Int) - 1) with
  | false => rfl
  | true =>
   have i1 := Yj h1
   have i2 := Yj h2
   have a1 := Y16 (Yk hv.rels (j := x.1.toNat) (by omega))
   have a2 := Y16 (Yk hv.rels (j := x.2.1.toNat) (by omega))
   simp only [Bool.not_true, cond_false, Y8 i1.1 (show x.1 < (d.1.length : Int) by omega), Y8 i2.1 (show x.2.1 < (d.1.length : Int) by omega), grd_true]
   rw [show (at_ (⟨#[]⟩, (0, 0)) d.1 x.1).2.1 = arOf d x.1 from rfl, show (at_ (⟨#[]⟩, (0, 0)) d.1 x.2.1).2.1 = arOf d x.2.1 from rfl]
   have b1 : 1 <= arOf d x.1 /\ arOf d x.1 <= 3 := a1
   have b2 : 1 <= arOf d x.2.1 /\ arOf d x.2.1 <= 3 := a2
   rw [Y5 (x := arOf d x.1 - 1) (by omega) (by omega), Y5 (x := arOf d x.2.1 - 1) (by omega) (by omega)]
   simp only [inR, Bool.true_and]
   cases decide (0 <= x.2.2.1 /\ x.2.2.1 <= arOf d x.1 - 1) <;> cases decide (0 <= x.2.2.2.2.1 /\ x.2.2.2.2.1 <= arOf d x.1 - 1) <;> cases decide (0 <= x.2.2.2.1 /\ x.2.2.2.1 <= arOf d x.2.1 - 1) <;> cases decide (0 <= x.2.2.2.2.2.1 /\ x.2.2.2.2.2.1 <= arOf d x.2.1 - 1) <;> rfl
theorem Y7v {d : Db} {x : Con} (h : SmallDb d) (hvb : validDb d = true) (hN : 1048576 < N) : Z20 N d x = some (conOk d x) := by
 rw [<- Y4s h hvb hN]
 unfold Z20 Z18
 rw [Yi h hN, Y1u h hN]
 simp only [Yf, l1In]
def viol (d : Db) (x : Con) (i k : Nat) : Bool := conOk d x && (decide ((factAt d i).1 = x.1) && (decide ((factAt d k).1 = x.2.1) && (decide (at_ 0 (factAt d i).2 x.2.2.1 = at_ 0 (factAt d k).2 x.2.2.2.1) &&
 (if x.2.2.2.2.2.2 = 1 then decide (at_ 0 (factAt d i).2 x.2.2.2.2.1 = at_ 0 (factAt d k).2 x.2.2.2.2.2.1) else decide (at_ 0 (factAt d i).2 x.2.2.2.2.1 < at_ 0 (factAt d k).2 x.2.2.2.2.2.1)))))
theorem Y4t {d : Db} (hv : ValidDb d) {x : Con} (hc : conOk d x = true) {i k : Nat} (hi : i < d.2.length) (hk : k < d.2.length) (h1 : (factAt d i).1 = x.1) (h2 : (factAt d k).1 = x.2.1) :
  inb x.2.2.1 (factAt d i).2 = true /\ inb x.2.2.2.2.1 (factAt d i).2 = true /\ inb x.2.2.2.1 (factAt d k).2 = true /\ inb x.2.2.2.2.2.1 (factAt d k).2 = true /\ (x.2.2.2.2.2.2 = 1 \/ x.2.2.2.2.2.2 = 2) := by
 unfold conOk at hc
 simp only [Bool.and_eq_true] at hc
 obtain ⟨_, _, c3, c4, c5, c6, c7⟩ := hc
 have i3 := Yj c3
 have i4 := Yj c4
 have i5 := Yj c5
 have i6 := Yj c6
 have i7 := Yj c7
 have l1 := (Ye hv.rels (hv.fact i hi)).len
 have l2 := (Ye hv.rels (hv.fact k hk)).len
 rw [h1] at l1
 rw [h2] at l2
 have l1 : ((factAt d i).2.length : Int) = arOf d x.1 := l1
 have l2 : ((factAt d k).2.length : Int) = arOf d x.2.1 := l2
 exact ⟨Y8 i3.1 (by omega), Y8 i4.1 (by omega), Y8 i5.1 (by omega), Y8 i6.1 (by omega), by omega⟩
theorem Y2k {d : Db} {x : Con} (h : SmallDb d) (hvb : validDb d = true) (hN : 1048576 < N) {i k : Nat} (hi : i < d.2.length) (hk : k < d.2.length) (hne : i ≠ k) : Z13 N d x i k = some (viol d x i k) := by
 have hf := h.facts
 have hv := Y6 hvb
 unfold Z13 viol
 rw [Y4s h hvb hN, Option.bind_some]
 cases hc : conOk d x with
 | false => rfl
 | true =>
  have e1 : (0 : Int) <= (i : Int) /\ (i : Int) <= (d.2.length : Int) - 1 := by omega
  have e2 : (0 : Int) <= (k : Int) /\ (k : Int) <= (d.2.length : Int) - 1 := by omega
  have e3 : ((i : Int) == (k : Int)) = false := by rw [beqI]; exact decide_eq_false (by omega)
  simp only [Bool.not_true, cond_false, l1In, Option.bind_some, Bool.true_and]
  rw [Y5 (x := (d.2.length : Int) - 1) (by omega) (by omega), decide_eq_true e1, decide_eq_true e2, e3]
  simp only [Bool.not_true, cond_false, Y0 hi, Y0 hk, grd_true, Ya hi, Ya hk, bneI]
  by_cases h1 : (factAt d i).1 = x.1
  ·by_cases h2 : (factAt d k).1 = x.2.1
   ·obtain ⟨k1, k2, k3, k4, k5⟩ := Y4t hv hc hi hk h1 h2
    simp only [h1, h2, decide_true, Bool.not_true, cond_false, k1, k2, k3, k4, grd_true, Bool.true_and]
    by_cases h3 : at_ 0 (factAt d i).2 x.2.2.1 = at_ 0 (factAt d k).2 x.2.2.2.1
    ·simp only [h3, decide_true, Bool.not_true, cond_false, Bool.true_and]
     by_cases h4 : x.2.2.2.2.2.2 = 1
     ·simp only [h4, if_true, beqI, decide_true, cond_true]
     ·simp only [h4, if_false, beqI, decide_false, cond_false]
    ·simp only [h3, decide_false, Bool.not_false, cond_true, Bool.false_and]
   ·simp only [h1, h2, decide_true, decide_false, Bool.not_true, Bool.not_false, cond_false, cond_true, Bool.false_and, Bool.true_and]
  ·simp only [h1, decide_false, Bool.not_false, cond_true, Bool.false_and]
theorem Y44 {d : Db} {x : Con} (h : SmallDb d) (hvb : validDb d = true) (hN : 1048576 < N) {i k : Nat} (hi : i < d.2.length) (hk : k < d.2.length) (hne : i ≠ k) : Z14 N d x i k = some (viol d x i k) := by
 have hf := h.facts
 have hv := Y6 hvb
 unfold Z14 viol
 rw [Y7v h hvb hN, Option.bind_some]
 cases hc : conOk d x with
 | false => rfl
 | true =>
  have e1 : (0 : Int) <= (i : Int) /\ (i : Int) <= (d.2.length : Int) - 1 := by omega
  have e2 : (0 : Int) <= (k : Int) /\ (k : Int) <= (d.2.length : Int) - 1 := by omega
  have e3 : ((i : Int) != (k : Int)) = true := by rw [bneI, decide_eq_false (by omega)]; rfl
  simp only [cond_true, Yf, Option.bind_some, Bool.true_and, e3]
  rw [Y5 (x := (d.2.length : Int) - 1) (by omega) (by omega), decide_eq_true e1, decide_eq_true e2]
  simp only [cond_true, Y0 hi, Y0 hk, grd_true, Ya hi, Ya hk]
  have bb : ∀ o : Option Bool, (o.bind fun r4 => some r4) = o := fun o => by cases o <;> rfl
  rw [bb]
  unfold Z7u
  simp only [bneI]
  by_cases h1 : (factAt d i).1 = x.1
  ·by_cases h2 : (factAt d k).1 = x.2.1
   ·obtain ⟨k1, k2, k3, k4, k5⟩ := Y4t hv hc hi hk h1 h2
    simp only [h1, h2, decide_true, Bool.not_true, cond_false, k1, k2, k3, k4, grd_true, Bool.true_and]
    by_cases h3 : at_ 0 (factAt d i).2 x.2.2.1 = at_ 0 (factAt d k).2 x.2.2.2.1
    ·simp only [h3, decide_true, Bool.not_true, cond_false, Bool.true_and]
     rcases k5 with k5 | k5
     ·simp only [k5, if_true, beqI, decide_true, cond_true]
      by_cases h5 : at_ 0 (factAt d i).2 x.2.2.2.2.1 = at_ 0 (factAt d k).2 x.2.2.2.2.2.1
      ·simp [h5]
      ·simp [h5]
     ·simp [k5, beqI]
    ·simp only [h3, decide_false, Bool.not_false, cond_true, Bool.false_and]
   ·simp only [h1, h2, decide_true, decide_false, Bool.not_true, Bool.not_false, cond_false, cond_true, Bool.false_and, Bool.true_and]
  ·simp only [h1, decide_false, Bool.not_false, cond_true, Bool.false_and]
theorem Y45 (s : List Int) (v : Int) : (s.any fun x => decide (v = x)) = decide (v ∈ s) := by
 induction s with
 | nil => rfl
 | cons x s ih => simp only [List.any_cons, ih, List.mem_cons, Bool.decide_or]
theorem Y4u {s : List Int} {v : Int} (hs : s.length <= 1048576) (hN : 1048576 < N) : Z0i N s v = some (decide (v ∈ s)) := by
 unfold Z0i Z35 Z7p
 rw [Yp (d := (0 : Int)) (xs := s) (p := fun x => decide (v = x)) (first (n := s.length) (fun j => decide (v = s.getD j 0)) (fun k i => Z2a N k s v (s.length : Int) i) (fun k => by simp [Z2a, Z4g]) (fun k j hj => ?_) (by omega)), Y45]
 have h1 : (j : Int) < (s.length : Int) := by omega
 simp only [Z2a, Z4g, h1, decide_true, cond_true, Y0 hj, grd_true, Y3 hj, Y2 hj, Y1 (j := j) (by omega), beqI]
 cases decide (v = s[j]) <;> rfl
theorem Y31 {s : List Int} {v : Int} (hs : s.length <= 1048576) (hN : 1048576 < N) : Z4d N s v = some (decide (v ∈ s)) := by
 unfold Z4d Z0bc
 rw [Y7 (n := s.length) (fun j => !decide (s.getD j 0 = v)) (some true) (some false) (fun k i => Z7s N k s v i) (fun k => by simp [Z7s, Z9j]) (fun k j hj => ?_) (by omega)]
 ·by_cases h : v ∈ s
  ·rw [decide_eq_true h]
   obtain ⟨j, hj, rfl⟩ := List.mem_iff_getElem.1 h
   rw [if_neg (fun h' => by have := h' j hj; rw [Y2 hj] at this; simp at this)]
  ·rw [decide_eq_false h, if_pos (fun j hj => by
    rw [Y2 hj]
    have : ¬ s[j] = v := fun e => h (e ▸ List.getElem_mem hj)
    simp [this])]
 ·have h1 : (j : Int) < (s.length : Int) := by omega
  simp only [Z7s, Z9j, h1, decide_true, cond_true, Y0 hj, grd_true, Y3 hj, Y2 hj, Y1 (j := j) (by omega), beqI]
  cases decide (s[j] = v) <;> simp
structure Good (n : Int) (c : List Int) : Prop where
 lit : ∀ x ∈ c, x ≠ 0 /\ -n <= x /\ x <= n
 one : c.Pairwise fun x y => x ≠ y /\ x ≠ -y
theorem Y46 : ∀ (n : Nat) (l : List Nat), l.Nodup -> (∀ x ∈ l, 1 <= x /\ x <= n) -> l.length <= n
 | 0, l, _, h => by
  cases l with
  | nil => simp
  | cons x l => have := h x (by simp); omega
 | n + 1, l, hn, h => by
  have := Y46 n (l.erase (n + 1)) (hn.erase _) (fun x hx => by
   have h1 := (hn.mem_erase_iff).1 hx
   have := h x h1.2
   have := h1.1
   omega)
  rw [List.length_erase] at this
  split at this <;> omega
theorem Good.few {n : Int} {c : List Int} (h0 : 0 <= n) (h : Good n c) : (c.length : Int) <= n := by
 have := Y46 n.toNat (c.map Int.natAbs) (by
  unfold List.Nodup
  rw [List.pairwise_map]
  exact h.one.imp (fun {x y} hxy e => by omega)) (fun x hx => by
  obtain ⟨y, hy, rfl⟩ := List.mem_map.1 hx
  have := h.lit y hy
  omega)
 rw [List.length_map] at this
 omega
theorem Y7w {d : Db} (h : b_Database d) : SmallDb d := ⟨h.1.1, h.2.1, fun f hf => h.2.2 f hf⟩
def vany (d : Db) (l : List Con) (i k : Nat) : Bool := l.any fun x => viol d x i k || viol d x k i
def edge (d : Db) (l : List Con) (i k : Nat) : Bool := sameD d i k || vany d l i k
def edgeP (d : Db) (l : List Con) (i k : Nat) : List (Int × Int) := if edge d l i k then [((i : Int), (k : Int))] else []
def edgeR (d : Db) (l : List Con) (i : Nat) : List (Int × Int) := (List.range' (i + 1) (d.2.length - (i + 1))).flatMap (edgeP d l i)
def edgesOf (d : Db) (l : List Con) : List (Int × Int) := (List.range d.2.length).flatMap (edgeR d l)
theorem Y1x (d : Db) (l : List Con) (i k : Nat) : (edgeP d l i k).length <= 1 := by unfold edgeP; split <;> simp
theorem Y1y {β : Type} {piece : Nat -> List β} {m : Nat} (h : ∀ k, (piece k).length <= m) (s n : Nat) : ((List.range' s n).flatMap piece).length <= n * m := by
 have := Yg (piece := piece) (n := m) (a := List.range' s n) (fun x _ => h x)
 simpa using this
theorem Y1z {d : Db} (hv : ValidDb d) (l : List Con) (i : Nat) : (edgeR d l i).length <= 14 := by
 have := Y1y (Y1x d l i) (i + 1) (d.2.length - (i + 1))
 have := hv.few
 unfold edgeR; omega
theorem Y67 {d : Db} (hv : ValidDb d) (l : List Con) : (edgesOf d l).length <= 196 := by
 have := Yg (piece := edgeR d l) (n := 14) (a := List.range d.2.length) (fun x _ => Y1z hv l x)
 have := hv.few
 simp only [List.length_range] at *
 unfold edgesOf
 omega
theorem Y2l {α : Type} {l : List α} {p : α -> Bool} {j : Nat} (h : j < l.length) : (l.drop j).any p = (p l[j] || (l.drop (j + 1)).any p) := by rw [List.drop_eq_getElem_cons h, List.any_cons]
theorem Yv {d : Db} {k : Nat} (hk : k < d.2.length) : factAt d k ∈ d.2 := by unfold factAt; rw [Y2 hk]; exact List.getElem_mem hk
theorem Y13 {N : Nat} {d : Db} {l : List Con} (h : SmallDb d) (hl : l.length <= 1048576) (hvb : validDb d = true) (hN : 1048576 < N) {i k : Nat} (hik : i < k) (hk : k < d.2.length) (Rc : List Con -> List Rel -> List Fact -> List (Int × Int) -> Int -> Int -> Option (List (Int × Int))) {out : List (Int × Int)} (ho : out.length <= 1000) :
  ∀ {f j : Nat} {is_ : Bool}, l.length - j < f -> j <= l.length -> Z31 Rc N f l d.1 d.2 out i k is_ (j : Int) = Rc l d.1 d.2 (out ++ (if is_ || (l.drop j).any (fun x => viol d x i k || viol d x k i) then [((i : Int), (k : Int))] else [])) i ((k + 1 : Nat) : Int)
 | 0, j, is_, hf, hj => by omega
 | f + 1, j, is_, hf, hj => by
  have few := (Y6 hvb).few
  by_cases hlt : j < l.length
  ·have h1 : (j : Int) < (l.length : Int) := by omega
   simp only [Z31, Z5a, h1, decide_true, cond_true, Y1 (j := j) (by omega), Y0 hlt, grd_true, Y3 hlt]
   rw [Y2l hlt]
   cases is_ with
   | true =>
    rw [cond_true, Y13 h hl hvb hN hik hk Rc ho (by omega) (by omega)]
    simp
   | false =>
    have v1 := Y2k (x := l[j]) h hvb hN (i := i) (k := k) (by omega) hk (by omega)
    have v2 := Y2k (x := l[j]) h hvb hN (i := k) (k := i) hk (by omega) (by omega)
    rw [cond_false]
    erw [v1]
    rw [Option.bind_some]
    cases hv1 : viol d l[j] i k with
    | true =>
     rw [cond_true, Y13 h hl hvb hN hik hk Rc ho (by omega) (by omega)]
     simp
    | false =>
     rw [cond_false]
     erw [v2]
     rw [Option.bind_some, Y13 h hl hvb hN hik hk Rc ho (by omega) (by omega)]
     simp only [Bool.false_or]
  ·have : j = l.length := by omega
   subst this
   have h1 : ¬ (l.length : Int) < (l.length : Int) := by omega
   simp only [Z31, Z5a, h1, decide_false, cond_false, Y1 (j := k) (by omega), List.drop_length, List.any_nil, Bool.or_false]
   cases is_ with
   | true =>
    have : appOk out [((i : Int), (k : Int))] 16 = true := Y3w (by simp only [List.length_singleton]; omega)
    rw [cond_true, this, grd_true, if_pos rfl]
   | false => simp
theorem Y68 {d : Db} {l : List Con} (h : SmallDb d) (hl : l.length <= 1048576) (hvb : validDb d = true) (hN : 1048576 < N) {i : Nat} (hi : i < d.2.length) (R0 : List Con -> List Rel -> List Fact -> List (Int × Int) -> Int -> Option (List (Int × Int))) {out : List (Int × Int)} (ho : out.length <= 500) :
  Z0x R0 N N l d.1 d.2 out i ((i + 1 : Nat) : Int) = R0 l d.1 d.2 (out ++ edgeR d l i) ((i + 1 : Nat) : Int) := by
 have few := (Y6 hvb).few
 have hv := Y6 hvb
 refine Y10 (n := d.2.length) (m := 1) (B := 1000) (edgeP d l i) (f := fun k out j => Z0x R0 N k l d.1 d.2 out i j) (g := fun out => R0 l d.1 d.2 out ((i + 1 : Nat) : Int)) (Y1x d l i) (fun k out => by
  have h1 : ¬ (d.2.length : Int) < (d.2.length : Int) := by omega
  simp only [Z0x, Z5b, h1, decide_false, cond_false, Y1 (j := i) (by omega)]) (lo := i + 1) (fun f out k hik hk hB => ?_) (by omega) (by omega) (by omega) (by omega)
 have hik : i < k := hik
 have h1 : (k : Int) < (d.2.length : Int) := by omega
 simp only [Z0x, Z5b, h1, decide_true, cond_true, Y0 hi, Y0 hk, grd_true, Ya hi, Ya hk]
 rw [Y41 h.rels (h.vals _ (Yv hi)) (h.vals _ (Yv hk)) hN hv.rels (hv.fact i hi) (hv.fact k hk), Option.bind_some]
 have := Y13 h hl hvb hN hik hk (Z0x R0 N f) hB (f := N) (j := 0) (is_ := sameK d.1 (factAt d i) (factAt d k)) (by omega) (by omega)
 rw [show ((0 : Nat) : Int) = 0 from rfl] at this
 rw [this, List.drop_zero]
 rfl
theorem Y69 {d : Db} {l : List Con} (h : SmallDb d) (hl : l.length <= 1048576) (hN : 1048576 < N) : Z3b N d l = some (if validDb d then edgesOf d l else []) := by
 have hf := h.facts
 unfold Z3b Z8y
 cases hvb : validDb d with
 | false =>
  obtain ⟨n, rfl⟩ : ∃ n, N = n + 1 := ⟨N - 1, by omega⟩
  simp only [Z1f, Z3v]
  have := Yi h hN
  rw [hvb] at this
  have this : Z0 (n + 1) (d.1, d.2) = some false := this
  rw [this]
  by_cases h0 : (0 : Int) < (d.2.length : Int)
  ·rw [decide_eq_true h0]; rfl
  ·rw [decide_eq_false h0]; rfl
 | true =>
  have hv := Y6 hvb
  have few := hv.few
  rw [if_pos rfl]
  have := Y10 (n := d.2.length) (m := 14) (B := 400) (lo := 0) (edgeR d l) (f := fun k out j => Z1f N k l d.1 d.2 out j) (g := fun out => some out) (Y1z hv l) (fun k out => by
   have h1 : ¬ (d.2.length : Int) < (d.2.length : Int) := by omega
   simp only [Z1f, Z3v, h1, decide_false, cond_false]) (fun f out i _ hi hB => by
   have h1 : (i : Int) < (d.2.length : Int) := by omega
   have hd := Yi h hN
   rw [hvb] at hd
   have hd : Z0 N (d.1, d.2) = some true := hd
   simp only [Z1f, Z3v, h1, decide_true, cond_true, hd, Option.bind_some, Y1 (j := i) (by omega)]
   rw [Y68 h hl hvb hN hi _ (by omega)]) (k := N) (j := 0) (out := []) (by omega) (by omega) (by omega) (by simp only [List.length_nil]; omega)
  rw [show ((0 : Nat) : Int) = 0 from rfl] at this
  rw [this, List.nil_append, Nat.sub_zero, <- List.range_eq_range']
  rfl
theorem Y6a {d : Db} {l : List Con} (h : SmallDb d) (hl : l.length <= 1048576) (hvb : validDb d = true) (hN : 1048576 < N) {i k : Nat} (hik : i < k) (hk : k < d.2.length) : Z29 N i k l d = some (edge d l i k) := by
 have hv := Y6 hvb
 have go : ∀ {f j : Nat}, l.length - j < f -> j <= l.length -> Z28 N f i k d.1 d.2 l (l.length : Int) (j : Int) = some ((l.drop j).any (fun x => viol d x i k || viol d x k i) || sameD d i k) := by
  intro f
  induction f with
  | zero => intro j hf hj; omega
  | succ f ih =>
   intro j hf hj
   by_cases hlt : j < l.length
   ·have h1 : (j : Int) < (l.length : Int) := by omega
    have v1 := Y2k (x := l[j]) h hvb hN (i := i) (k := k) (by omega) hk (by omega)
    have v1 := Y44 (x := l[j]) h hvb hN (i := i) (k := k) (by omega) hk (by omega)
    have v2 := Y44 (x := l[j]) h hvb hN (i := k) (k := i) hk (by omega) (by omega)
    simp only [Z28, Z4f, h1, decide_true, cond_true, Y1 (j := j) (by omega), Y0 hlt, grd_true, Y3 hlt]
    rw [Y2l hlt]
    erw [v1]
    rw [Option.bind_some]
    cases hv1 : viol d l[j] i k with
    | true => simp
    | false =>
     rw [cond_false]
     erw [v2]
     rw [Option.bind_some]
     cases hv2 : viol d l[j] k i with
     | true => simp
     | false =>
      rw [cond_false, ih (by omega) (by omega)]
      simp only [Bool.false_or]
   ·have : j = l.length := by omega
    subst this
    have h1 : ¬ (l.length : Int) < (l.length : Int) := by omega
    have hi : i < d.2.length := by omega
    simp only [Z28, Z4f, h1, decide_false, cond_false, List.drop_length, List.any_nil, Bool.false_or, Y0 hi, Y0 hk, grd_true, Ya hi, Ya hk]
    rw [Y71 (h.vals _ (Yv hi)) (h.vals _ (Yv hk)) hN hv.rels (hv.fact i hi) (hv.fact k hk)]
    rfl
 unfold Z29 Z7o
 have := go (f := N) (j := 0) (by omega) (by omega)
 rw [show ((0 : Nat) : Int) = 0 from rfl] at this
 rw [this, List.drop_zero, Bool.or_comm]
 rfl
theorem Y6b {d : Db} {l : List Con} (h : SmallDb d) (hl : l.length <= 1048576) (hvb : validDb d = true) (hN : 1048576 < N) {i : Nat} (hi : i < d.2.length) (R0 : Int -> List Con -> Db -> List (Int × Int) -> Int -> Int -> Option (List (Int × Int))) {out : List (Int × Int)} (ho : out.length <= 500) :
  Z0n R0 N N (d.2.length : Int) l d out i ((i + 1 : Nat) : Int) (d.2.length : Int) i = R0 (d.2.length : Int) l d (out ++ edgeR d l i) (d.2.length : Int) ((i + 1 : Nat) : Int) := by
 have few := (Y6 hvb).few
 refine Y10 (n := d.2.length) (m := 1) (B := 1000) (edgeP d l i) (f := fun k out j => Z0n R0 N k (d.2.length : Int) l d out i j (d.2.length : Int) i) (g := fun out => R0 (d.2.length : Int) l d out (d.2.length : Int) ((i + 1 : Nat) : Int)) (Y1x d l i) (fun k out => by
  have h1 : ¬ (d.2.length : Int) < (d.2.length : Int) := by omega
  simp only [Z0n, Z2n, h1, decide_false, cond_false, Y1 (j := i) (by omega)]) (lo := i + 1) (fun f out k hik hk hB => ?_) (by omega) (by omega) (by omega) (by omega)
 have hik : i < k := hik
 have h1 : (k : Int) < (d.2.length : Int) := by omega
 simp only [Z0n, Z2n, h1, decide_true, cond_true, Y6a h hl hvb hN hik hk, Option.bind_some, Y1 (j := k) (by omega)]
 unfold edgeP
 cases edge d l i k with
 | true =>
  have : appOk out [((i : Int), (k : Int))] 16 = true := Y3w (by simp only [List.length_singleton]; omega)
  rw [cond_true, this, grd_true, if_pos rfl]
 | false => simp
theorem Y6c {d : Db} {l : List Con} (h : SmallDb d) (hl : l.length <= 1048576) (hN : 1048576 < N) : Z3e N d l = some (if validDb d then edgesOf d l else []) := by
 have hf := h.facts
 unfold Z3e
 rw [Y1u h hN, Option.bind_some]
 cases hvb : validDb d with
 | false => rfl
 | true =>
  have hv := Y6 hvb
  have few := hv.few
  rw [if_pos rfl, Bool.not_true, cond_false]
  unfold Z1g Z59
  have := Y10 (n := d.2.length) (m := 14) (B := 400) (lo := 0) (edgeR d l) (f := fun k out j => Z0o N k (d.2.length : Int) l d out (d.2.length : Int) j) (g := fun out => some out) (Y1z hv l) (fun k out => by
   have h1 : ¬ (d.2.length : Int) < (d.2.length : Int) := by omega
   simp only [Z0o, Z2o, h1, decide_false, cond_false]) (fun f out i _ hi hB => by
   have h1 : (i : Int) < (d.2.length : Int) := by omega
   simp only [Z0o, Z2o, h1, decide_true, cond_true, Y1 (j := i) (by omega)]
   rw [Y6b h hl hvb hN hi _ (by omega)]) (k := N) (j := 0) (out := []) (by omega) (by omega) (by omega) (by simp only [List.length_nil]; omega)
  rw [show ((0 : Nat) : Int) = 0 from rfl] at this
  rw [this, Option.bind_some, List.nil_append, Nat.sub_zero, <- List.range_eq_range']
  rfl
structure EOk (n : Nat) (E : List (Int × Int)) : Prop where
 few : n <= 14
 len : E.length <= 196
 all : ∀ e ∈ E, 0 <= e.1 /\ e.1 < e.2 /\ e.2 < (n : Int)
def ordE (E : List (Int × Int)) (j : Nat) : Bool := decide (j = 0) || (let a := E.getD j (0, 0); let b := E.getD (j - 1) (0, 0); decide (b.1 < a.1) || (decide (b.1 = a.1) && decide (b.2 < a.2)))
def validE (E : List (Int × Int)) : Bool := decide (∀ j, j < E.length -> ordE E j = true)
theorem in14 {n : Nat} (h : n <= 14) : decide ((0 : Int) <= (n : Int) /\ (n : Int) <= 14) = true := decide_eq_true (by omega)
theorem Y6d {N n : Nat} {E : List (Int × Int)} (h : EOk n E) (hN : 1048576 < N) : Z1t N n E = some (validE E) := by
 have hf := h.few
 have hl := h.len
 unfold Z1t Z8z
 rw [Y7 (n := E.length) (ordE E) (some false) (some true) (fun k i => Z32 N k n E i) (fun k => by simp [Z32, Z5c, l1In]; omega) (fun k j hj => ?_) (by omega)]
 ·unfold validE
  split
  ·rename_i h4; rw [decide_eq_true h4]
  ·rename_i h4; rw [decide_eq_false h4]
 ·have h1 : (j : Int) < (E.length : Int) := by omega
  have h2 := h.all _ (List.getElem_mem hj)
  have e1 : decide (0 <= E[j].1 /\ E[j].1 <= E[j].2 - 1) = true := decide_eq_true (by omega)
  have e2 : decide (0 <= E[j].2 /\ E[j].2 <= (n : Int) - 1) = true := decide_eq_true (by omega)
  simp only [Z32, Z5c, h1, decide_true, cond_true, Y0 hj, grd_true, Y3 hj, l1In, Option.bind_some, Y1 (j := j) (by omega), Y5 (x := E[j].2 - 1) (by omega) (by omega), Y5 (x := (n : Int) - 1) (by omega) (by omega), e1, e2, Bool.not_true, cond_false]
  by_cases h0 : j = 0
  ·subst h0; simp [ordE]
  ·have h3 : (j : Int) > 0 := by omega
   have h4 : j - 1 < E.length := by omega
   simp only [h3, decide_true, cond_true, Yc (show 0 < j by omega) (by omega), Y0 h4, grd_true, Y3 h4, ordE, h0, decide_false, Bool.false_or, Y2 h4, Y2 hj, beqI]
   by_cases h5 : E[j].1 < E[j - 1].1
   ·have a1 : ¬ E[j - 1].1 < E[j].1 := by omega
    have a2 : ¬ E[j - 1].1 = E[j].1 := by omega
    simp [h5, a1, a2]
   ·by_cases h6 : E[j].1 = E[j - 1].1
    ·have a1 : ¬ E[j - 1].1 < E[j].1 := by omega
     by_cases h7 : E[j].2 <= E[j - 1].2
     ·have a2 : ¬ E[j - 1].2 < E[j].2 := by omega
      simp [h6, h7, a2]
     ·have a2 : E[j - 1].2 < E[j].2 := by omega
      simp [h6, h7, a2]
    ·have a1 : E[j - 1].1 < E[j].1 := by omega
     simp [h5, h6, a1]
theorem Y6e {N n : Nat} {E : List (Int × Int)} (h : EOk n E) (hN : 1048576 < N) : Z1x N n E = some (validE E) := by
 have hf := h.few
 have hl := h.len
 unfold Z1x Z95
 rw [Yf, Option.bind_some, in14 hf, Bool.not_true, cond_false]
 rw [Y7 (n := E.length) (ordE E) (some false) (some true) (fun k i => Z34 N k n E E (E.length : Int) i) (fun k => by simp [Z34, Z5e]) (fun k j hj => ?_) (by omega)]
 ·unfold validE
  split
  ·rename_i h4; rw [decide_eq_true h4]
  ·rename_i h4; rw [decide_eq_false h4]
 ·have h1 : (j : Int) < (E.length : Int) := by omega
  have h2 := h.all _ (List.getElem_mem hj)
  have e1 : ¬ E[j].1 < 0 := by omega
  have e2 : ¬ E[j].1 >= E[j].2 := by omega
  have e3 : ¬ E[j].2 >= (n : Int) := by omega
  simp only [Z34, Z5e, h1, decide_true, cond_true, Y0 hj, grd_true, Y3 hj, Y1 (j := j) (by omega), e1, e2, e3, decide_false, cond_false]
  by_cases h0 : j = 0
  ·subst h0; simp [ordE]
  ·have h3 : (j : Int) > 0 := by omega
   have h4 : j - 1 < E.length := by omega
   simp only [h3, decide_true, cond_true, Yc (show 0 < j by omega) (by omega), Y0 h4, grd_true, Y3 h4, ordE, h0, decide_false, Bool.false_or, Y2 h4, Y2 hj, beqI]
   by_cases h5 : E[j - 1].1 > E[j].1
   ·have a1 : ¬ E[j - 1].1 < E[j].1 := by omega
    have a2 : ¬ E[j - 1].1 = E[j].1 := by omega
    simp [h5, a1, a2]
   ·by_cases h6 : E[j - 1].1 = E[j].1
    ·by_cases h7 : E[j - 1].2 >= E[j].2
     ·have a2 : ¬ E[j - 1].2 < E[j].2 := by omega
      simp [h6, h7, a2]
     ·have a2 : E[j - 1].2 < E[j].2 := by omega
      simp [h6, h7, a2]
    ·have a1 : E[j - 1].1 < E[j].1 := by omega
     simp [h5, h6, a1]
def indep (E : List (Int × Int)) (s : List Int) : Bool := E.all fun e => !(decide (e.1 ∈ s) && decide (e.2 ∈ s))
theorem Y75 {α : Type} {xs : List α} {p : α -> Bool} (d : α) : xs.all p = decide (∀ j, j < xs.length -> p (xs.getD j d) = true) := by
 rw [Bool.eq_iff_iff, decide_eq_true_eq, List.all_eq_true]
 constructor
 ·intro h j hj
  rw [Y2 hj]; exact h _ (List.getElem_mem hj)
 ·intro h x hx
  obtain ⟨j, hj, rfl⟩ := List.mem_iff_getElem.1 hx
  have := h j hj
  rwa [Y2 hj] at this
theorem Y4v {E : List (Int × Int)} {s : List Int} (he : E.length <= 196) (hs : s.length <= 1000) (hN : 1048576 < N) : Z1u N E s = some (indep E s) := by
 unfold Z1u Z91 indep
 rw [Y75 (0, 0), Y7 (n := E.length) (fun j => !(decide ((E.getD j (0, 0)).1 ∈ s) && decide ((E.getD j (0, 0)).2 ∈ s))) (some false) (some true) (fun k i => Z33 N k E s i) (fun k => by simp [Z33, Z5d]) (fun k j hj => ?_) (by omega)]
 ·split
  ·rename_i h4; rw [decide_eq_true h4]
  ·rename_i h4; rw [decide_eq_false h4]
 ·have h1 : (j : Int) < (E.length : Int) := by omega
  simp only [Z33, Z5d, h1, decide_true, cond_true, Y0 hj, grd_true, Y3 hj, Y2 hj, Y1 (j := j) (by omega), Y31 (s := s) (by omega) hN, Option.bind_some]
  cases decide (E[j].1 ∈ s) <;> cases decide (E[j].2 ∈ s) <;> rfl
theorem Y32 {E : List (Int × Int)} {s : List Int} (he : E.length <= 196) (hs : s.length <= 1000) (hN : 1048576 < N) : Z0t N E s = some (indep E s) := by
 unfold Z0t Z2 Z3 Z0m
 rw [Yp (d := ((0, 0) : Int × Int)) (xs := E) (p := fun e => decide (e.1 ∈ s) && decide (e.2 ∈ s)) (first (n := E.length) (fun j => decide ((E.getD j (0, 0)).1 ∈ s) && decide ((E.getD j (0, 0)).2 ∈ s)) (fun k i => Z1 N k E s (E.length : Int) i) (fun k => by simp [Z1, Z7]) (fun k j hj => ?_) (by omega)), Option.bind_some]
 ·unfold indep
  rw [List.all_eq_not_any_not]
  simp
 ·have h1 : (j : Int) < (E.length : Int) := by omega
  simp only [Z1, Z7, Z36, h1, decide_true, cond_true, Y0 hj, grd_true, Y3 hj, Y2 hj, Y1 (j := j) (by omega), Y4u (s := s) (by omega) hN, Option.bind_some]
  cases decide (E[j].1 ∈ s) <;> cases decide (E[j].2 ∈ s) <;> rfl
def fitsE (E : List (Int × Int)) (s : List Int) (x : Int) : Bool := !decide (x ∈ s) && indep E (s ++ [x])
theorem Y47 {E : List (Int × Int)} {s : List Int} {x : Int} (he : E.length <= 196) (hs : s.length <= 900) (hN : 1048576 < N) : Z5v N E s x = some (fitsE E s x) := by
 unfold Z5v fitsE
 rw [Y31 (by omega) hN, Option.bind_some]
 cases decide (x ∈ s) with
 | true => rfl
 | false =>
  rw [Bool.not_false, cond_true, Y4 (by omega) (by simp only [List.length_nil]; omega), Y4 (by omega) (by simp only [List.length_singleton]; omega), Y4v he (by simp only [List.length_append, List.length_singleton]; omega) hN]
  rfl
theorem Y76 {N n : Nat} {l : List Int} (hn : n <= 1048576) (hl : l.length <= 1048576) (hN : 1048576 < N) : Z90 N n l = some (validSet n l) := by
 unfold Z90 Z0bb
 rw [Y7 (n := l.length) (fun j => decide (0 <= l.getD j 0 /\ l.getD j 0 <= (n : Int) - 1) && (decide (j = 0) || decide (l.getD (j - 1) 0 < l.getD j 0))) (some false) (some true) (fun k i => Z7r N k (n : Int) l i)
  (fun k => by simp [Z7r, Z9i]) (fun k j hj => ?_) (by omega)]
 ·unfold validSet
  split
  ·rename_i h4; rw [decide_eq_true h4]
  ·rename_i h4; rw [decide_eq_false h4]
 ·have h1 : (j : Int) < (l.length : Int) := by omega
  simp only [Z7r, Z9i, h1, decide_true, cond_true, Y0 hj, grd_true, Y3 hj, l1In, Option.bind_some, Y2 hj, Y1 (j := j) (by omega), Y5 (show -9223372036854775808 <= (n : Int) - 1 by omega) (by omega)]
  cases decide (0 <= l[j] /\ l[j] <= (n : Int) - 1) with
  | false => rfl
  | true =>
   simp only [Bool.not_true, cond_false, Bool.true_and]
   by_cases h0 : j = 0
   ·subst h0; simp
   ·have h3 : (j : Int) > 0 := by omega
    have h4 : j - 1 < l.length := by omega
    simp only [h3, decide_true, cond_true, Yc (show 0 < j by omega) (by omega), Y0 h4, grd_true, Y3 h4, h0, decide_false, Bool.false_or, Y2 h4]
    by_cases h5 : l[j - 1] < l[j]
    ·have : ¬ l[j] <= l[j - 1] := by omega
     simp [h5, this]
    ·have : l[j] <= l[j - 1] := by omega
     simp [h5, this]
def maxI (n : Nat) (E : List (Int × Int)) (s : List Int) : Bool := validE E && (validSet n s && (indep E s && decide (∀ x, x < n -> (!fitsE E s x) = true)))
theorem Y7x {N n : Nat} {E : List (Int × Int)} {s : List Int} (h : EOk n E) (hs : s.length <= 900) (hN : 1048576 < N) : Z16 N n E s = some (maxI n E s) := by
 have hf := h.few
 unfold Z16 Z60 maxI
 rw [Y6d h hN, Y76 (by omega) (by omega) hN, Y4v h.len (by omega) hN, Option.bind_some, Option.bind_some, Option.bind_some]
 cases validE E with
 | false => rfl
 | true =>
  cases validSet n s with
  | false => rfl
  | true =>
   cases indep E s with
   | false => rfl
   | true =>
    simp only [Bool.not_true, cond_false, Bool.true_and]
    refine Y11 (n := n) (fun x => !fitsE E s x) (fun k i => Z19 N k n E s i) (fun k => by simp [Z19, Z2x]) (fun k j hj => ?_) (by omega)
    have h1 : (j : Int) < (n : Int) := by omega
    simp only [Z19, Z2x, h1, decide_true, cond_true, Y47 h.len hs hN, Option.bind_some, Y1 (j := j) (by omega)]
    cases fitsE E s j <;> simp
theorem Yz {s : List Int} (hs : s.length <= 1000) : Z0w N s = some s := by
 unfold Z0w
 rw [decide_eq_true (by omega), grd_true]
theorem Y7y {N n : Nat} {E : List (Int × Int)} {s : List Int} (h : EOk n E) (hs : s.length <= 900) (hN : 1048576 < N) : Z17 N n E s = some (maxI n E s) := by
 have hf := h.few
 unfold Z17 Z62 Z37 maxI
 rw [Y6e h hN, Y30 (by omega) (by omega) hN, Y32 h.len (by omega) hN, Option.bind_some, Option.bind_some, Option.bind_some]
 cases validE E with
 | false => rfl
 | true =>
  cases validSet n s with
  | false => rfl
  | true =>
   cases indep E s with
   | false => rfl
   | true =>
    simp only [Bool.not_true, cond_false, cond_true, Option.bind_some, Bool.true_and]
    refine Y11 (n := n) (fun x => !fitsE E s x) (fun k i => Z1a N k E s n i) (fun k => by simp [Z1a, Z2y]) (fun k j hj => ?_) (by omega)
    have h1 : (j : Int) < (n : Int) := by omega
    simp only [Z1a, Z2y, h1, decide_true, cond_true, Y4u (s := s) (by omega) hN, Option.bind_some, Y1 (j := j) (by omega), Yz (N := N) (s := s) (by omega)]
    rw [Y4 (by omega) (by simp only [List.length_singleton]; omega), grd_true, Y32 h.len (by simp only [List.length_append, List.length_singleton]; omega) hN, Option.bind_some]
    unfold fitsE
    cases decide ((j : Int) ∈ s) <;> cases indep E (s ++ [(j : Int)]) <;> simp
def uni : List Int -> List Int -> List Int -> Option (List Int)
 | [], _, x => some x
 | _ :: _, [], _ => none
 | t :: ts, w :: ws, x => if t < 0 then (if -1 - t = w then uni ts ws x else none)
  else if x.getD t.toNat 0 >= 0 then (if x.getD t.toNat 0 = w then uni ts ws x else none)
  else uni ts ws (x.set t.toNat w)
theorem Y26 : ∀ {ts ws x y : List Int}, uni ts ws x = some y -> y.length = x.length
 | [], _, x, y, h => by simp only [uni, Option.some.injEq] at h; rw [h]
 | _ :: _, [], _, _, h => by simp [uni] at h
 | t :: ts, w :: ws, x, y, h => by
  simp only [uni] at h
  split at h
  ·split at h
   ·exact Y26 h
   ·cases h
  ·split at h
   ·split at h
    ·exact Y26 h
    ·cases h
   ·have := Y26 h
    rwa [List.length_set] at this
theorem Y77 {x : List Int} {t : Nat} (h : t < x.length) {w : Int} (hw : x.getD t 0 = w) : x.set t w = x := by
 rw [Y2 h] at hw
 rw [<- hw]
 exact List.set_getElem_self h
theorem Y27 {N n : Nat} {a2 f2 : Int} {ts ws : List Int} (hts : ts.length <= 3) (hl : ts.length = ws.length) (hn : n <= 4) (ht : termsOk n ts = true) (hN : 1048576 < N) : ∀ (f q : Nat) (x : List Int), ts.length - q < f -> q <= ts.length -> x.length = n -> ∃ y, Z7x N f a2 ts f2 ws x (q : Int) = some (y, (uni (ts.drop q) (ws.drop q) x).isSome) /\ ∀ z, uni (ts.drop q) (ws.drop q) x = some z -> y = z
 | 0, q, x, hf, _, _ => by omega
 | f + 1, q, x, hf, hq', hx => by
  simp only [Z7x, Z9v]
  by_cases hq : q < ts.length
  ·have e1 : (q : Int) < (ts.length : Int) := by omega
   have hqw : q < ws.length := by omega
   have hb := of_decide_eq_true (List.all_eq_true.1 ht _ (List.getElem_mem hq))
   rw [List.drop_eq_getElem_cons hq, List.drop_eq_getElem_cons hqw]
   simp only [e1, decide_true, cond_true, Y0 hq, grd_true, Y3 hq, Y0 hqw, Y3 hqw, Y1 (j := q) (by omega), uni, bneI]
   by_cases h0 : ts[q] < 0
   ·rw [decide_eq_true h0, cond_true, if_pos h0, Y5 (by omega) (by omega)]
    by_cases h1 : -1 - ts[q] = ws[q]
    ·rw [decide_eq_true h1, Bool.not_true, cond_false, if_pos h1]
     exact Y27 hts hl hn ht hN f (q + 1) x (by omega) hq hx
    ·rw [decide_eq_false h1, Bool.not_false, cond_true, if_neg h1]
     exact ⟨x, rfl, fun z hz => by cases hz⟩
   ·obtain ⟨t, e⟩ : ∃ t : Nat, ts[q] = (t : Int) := ⟨ts[q].toNat, by omega⟩
    have htx : t < x.length := by omega
    rw [decide_eq_false h0, cond_false, if_neg h0, e, Y0 htx, grd_true, grd_true, Int.toNat_natCast, Y3 htx, Y2 htx]
    by_cases h1 : x[t] >= 0
    ·rw [decide_eq_true h1, cond_true, if_pos h1]
     by_cases h2 : x[t] = ws[q]
     ·rw [decide_eq_true h2, Bool.not_true, cond_false, if_pos h2, grd_true, grd_true, letv_eq, Y77 htx (by rw [Y2 htx]; exact h2)]
      exact Y27 hts hl hn ht hN f (q + 1) x (by omega) hq hx
     ·rw [decide_eq_false h2, Bool.not_false, cond_true, if_neg h2]
      exact ⟨x, rfl, fun z hz => by cases hz⟩
    ·rw [decide_eq_false h1, cond_false, if_neg h1, grd_true, letv_eq]
     exact Y27 hts hl hn ht hN f (q + 1) (x.set t ws[q]) (by omega) hq (by rw [List.length_set]; exact hx)
  ·have : q = ts.length := by omega
   subst this
   simp only [Int.lt_irrefl, decide_false, cond_false, List.drop_length, uni]
   exact ⟨x, rfl, fun z hz => by cases hz; rfl⟩
theorem Y28 {N n : Nat} {ts ws : List Int} (hts : ts.length <= 3) (hl : ts.length = ws.length) (hn : n <= 4) (ht : termsOk n ts = true) (hN : 1048576 < N) : ∀ (f q : Nat) (x : List Int), ts.length - q < f -> q <= ts.length -> x.length = n -> ∃ y, Z9a N f ws x ts (ts.length : Int) (q : Int) = some (y, (uni (ts.drop q) (ws.drop q) x).isSome) /\ ∀ z, uni (ts.drop q) (ws.drop q) x = some z -> y = z
 | 0, q, x, hf, _, _ => by omega
 | f + 1, q, x, hf, hq', hx => by
  simp only [Z9a, Z0a6]
  by_cases hq : q < ts.length
  ·have e1 : (q : Int) < (ts.length : Int) := by omega
   have hqw : q < ws.length := by omega
   have hb := of_decide_eq_true (List.all_eq_true.1 ht _ (List.getElem_mem hq))
   rw [List.drop_eq_getElem_cons hq, List.drop_eq_getElem_cons hqw]
   simp only [e1, decide_true, cond_true, Y0 hq, grd_true, Y3 hq, Y0 hqw, Y3 hqw, Y1 (j := q) (by omega), uni, bneI, Z6j, Z55, Option.bind_some]
   by_cases h0 : ts[q] < 0
   ·rw [decide_eq_false (show ¬ ts[q] >= 0 by omega), Bool.not_false, cond_true, if_pos h0, Y5 (by omega) (by omega)]
    by_cases h1 : -1 - ts[q] = ws[q]
    ·rw [decide_eq_true h1, Bool.not_true, cond_false, if_pos h1]
     exact Y28 hts hl hn ht hN f (q + 1) x (by omega) hq hx
    ·rw [decide_eq_false h1, Bool.not_false, cond_true, if_neg h1]
     exact ⟨[], rfl, fun z hz => by cases hz⟩
   ·obtain ⟨t, e⟩ : ∃ t : Nat, ts[q] = (t : Int) := ⟨ts[q].toNat, by omega⟩
    have htx : t < x.length := by omega
    rw [decide_eq_true (show ts[q] >= 0 by omega), Bool.not_true, cond_false, if_neg h0, e, Y0 htx, grd_true, Int.toNat_natCast, Y3 htx, Y2 htx]
    by_cases h1 : x[t] >= 0
    ·rw [decide_eq_false (show ¬ x[t] < 0 by omega), cond_false, if_pos h1, grd_true]
     by_cases h2 : x[t] = ws[q]
     ·rw [decide_eq_true h2, Bool.not_true, cond_false, if_pos h2]
      exact Y28 hts hl hn ht hN f (q + 1) x (by omega) hq hx
     ·rw [decide_eq_false h2, Bool.not_false, cond_true, if_neg h2]
      exact ⟨[], rfl, fun z hz => by cases hz⟩
    ·rw [decide_eq_true (show x[t] < 0 by omega), cond_true, if_neg h1, grd_true, grd_true, letv_eq]
     exact Y28 hts hl hn ht hN f (q + 1) (x.set t ws[q]) (by omega) hq (by rw [List.length_set]; exact hx)
  ·have : q = ts.length := by omega
   subst this
   simp only [Int.lt_irrefl, decide_false, cond_false, List.drop_length, uni]
   exact ⟨x, rfl, fun z hz => by cases hz; rfl⟩
def meetA (a : Atm) (f : Fact) (x : List Int) : Option (List Int) := if f.1 = a.1 then uni a.2 f.2 x else none
def emb (d : Db) (as : List Atm) : Nat -> Nat -> List Int -> List Int -> List (List Int × List Int)
 | 0, _, x, fs => [(x, fs)]
 | m + 1, k, x, fs => (List.range d.2.length).flatMap fun i => match meetA (atomAt as k) (factAt d i) x with
  | some y => emb d as m (k + 1) y (fs ++ [(i : Int)])
  | none => []
theorem Y1g {d : Db} {as : List Atm} (hf : d.2.length <= 14) : ∀ (m k : Nat) (x fs : List Int), (emb d as m k x fs).length <= 14 ^ m
 | 0, k, x, fs => by simp [emb]
 | m + 1, k, x, fs => by
  have := Yg (n := 14 ^ m) (a := List.range d.2.length) (piece := fun i => match meetA (atomAt as k) (factAt d i) x with
   | some y => emb d as m (k + 1) y (fs ++ [(i : Int)])
   | none => []) fun i _ => by
    split
    ·exact Y1g hf m _ _ _
    ·simp
  rw [List.length_range] at this
  show (List.flatMap _ _).length <= _
  rw [Nat.pow_succ, Nat.mul_comm]
  exact Nat.le_trans this (Nat.mul_le_mul_right _ hf)
structure QOk (d : Db) (n : Nat) (as : List Atm) : Prop where
 few : d.2.length <= 14
 n4 : n <= 4
 as3 : as.length <= 3
 terms : ∀ k, k < as.length -> termsOk n (atomAt as k).2 = true /\ (atomAt as k).2.length <= 3
 len : ∀ k i, k < as.length -> i < d.2.length -> (factAt d i).1 = (atomAt as k).1 -> (atomAt as k).2.length = (factAt d i).2.length
theorem qOk {d : Db} {q : Qry} (h : queryFor d q = true) : QOk d q.1.toNat q.2.1 := by
 unfold queryFor validQ at h
 simp only [Bool.and_eq_true, decide_eq_true_eq] at h
 obtain ⟨hvb, hvr, hn, ha, hok, _, _⟩ := h
 have hv := Y6 hvb
 have hat : ∀ k, k < q.2.1.length -> atomOk d.1 q.1.toNat q.2.1 k = true := of_decide_eq_true hok
 refine ⟨hv.few, by omega, by omega, fun k hk => ?_, fun k i hk hi he => ?_⟩
 ·have h1 := hat k hk
  unfold atomOk at h1
  simp only [Bool.and_eq_true, decide_eq_true_eq] at h1
  have h2 := Y2j hvr h1.1
  exact ⟨h1.2.2.2, by omega⟩
 ·have h1 := hat k hk
  unfold atomOk at h1
  simp only [Bool.and_eq_true, decide_eq_true_eq] at h1
  have h2 := (Ye hv.rels (hv.fact i hi)).len
  rw [he] at h2
  have : ((atomAt q.2.1 k).2.length : Int) = ((factAt d i).2.length : Int) := h1.2.1.trans h2.symm
  omega
theorem Y78 {N n : Nat} {d : Db} {as : List Atm} (h : QOk d n as) (hN : 1048576 < N) {k i : Nat} (hk : k < as.length) (hi : i < d.2.length) {x : List Int} (hx : x.length = n) : ∃ y, Z78 N (atomAt as k) (factAt d i) x = some (y, (meetA (atomAt as k) (factAt d i) x).isSome) /\ ∀ z, meetA (atomAt as k) (factAt d i) x = some z -> y = z := by
 have hn := h.n4
 obtain ⟨t1, t2⟩ := h.terms k hk
 unfold Z78 Z0aj meetA
 rw [Y4 (by omega) (by simp only [List.length_nil]; omega), grd_true, bneI]
 by_cases e : (factAt d i).1 = (atomAt as k).1
 ·have hl := h.len k i hk hi e
  have h0 : (((factAt d i).2.length : Int) != ((atomAt as k).2.length : Int)) = false := by simp [hl]
  rw [decide_eq_true e, Bool.not_true, cond_false, h0, cond_false, if_pos e]
  have := Y27 (N := N) (n := n) (a2 := (atomAt as k).1) (f2 := (factAt d i).1) t2 hl hn t1 hN N 0 x (by omega) (by omega) hx
  simpa using this
 ·rw [decide_eq_false e, Bool.not_false, cond_true, if_neg e]
  exact ⟨x, rfl, fun z hz => by cases hz⟩
theorem p14 {m : Nat} (h : m <= 3) : 14 ^ m <= 2744 := Nat.le_trans (Nat.pow_le_pow_right (by decide) h) (by decide)
theorem Y48 {a : Atm} {f : Fact} {x y : List Int} (h : meetA a f x = some y) : y.length = x.length := by
 unfold meetA at h
 split at h
 ·exact Y26 h
 ·cases h
theorem Y79 {d : Db} {as : List Atm} (hf : d.2.length <= 14) (m k : Nat) (x fs : List Int) (j : Nat) (hj : j <= d.2.length) : ((List.range j).flatMap fun i => match meetA (atomAt as k) (factAt d i) x with
  | some y => emb d as m (k + 1) y (fs ++ [(i : Int)])
  | none => []).length <= 14 * 14 ^ m := by
 have := Yg (n := 14 ^ m) (a := List.range j) (piece := fun i => match meetA (atomAt as k) (factAt d i) x with
  | some y => emb d as m (k + 1) y (fs ++ [(i : Int)])
  | none => []) fun i _ => by
   split
   ·exact Y1g hf m _ _ _
   ·simp
 rw [List.length_range] at this
 exact Nat.le_trans this (Nat.mul_le_mul_right _ (by omega))
theorem Y4w {N n : Nat} {d : Db} {q : Qry} (h : QOk d n q.2.1) (hN : 1048576 < N) : ∀ (m f k : Nat) (x fs : List Int), m < f -> k + m = q.2.1.length -> x.length = n -> fs.length = k -> Z3o N f d q k x fs = some (emb d q.2.1 m k x fs)
 | _, 0, _, _, _, hf, _, _, _ => by omega
 | 0, f + 1, k, x, fs, hf, hk, hx, hfs => by
  have h3 := h.as3
  have hn := h.n4
  obtain rfl : k = q.2.1.length := by omega
  simp only [Z3o, Z9t, beqI, decide_true, cond_true, emb]
  rw [Y4 (by omega) (by simp only [List.length_nil]; omega), Y4 (by omega) (by simp only [List.length_nil]; omega)]
  rfl
 | m + 1, f + 1, k, x, fs, hf, hk, hx, hfs => by
  have h3 := h.as3
  have hn := h.n4
  have hd := h.few
  have hne : ¬ (k : Int) = (q.2.1.length : Int) := by omega
  have hkl : k < q.2.1.length := by omega
  have hp := p14 (m := m) (by omega)
  simp only [Z3o, Z9t, beqI, decide_eq_false hne, cond_false]
  have := loop (fun t (j : Nat) => Z7y N (Z3o N f) t (k : Int) x fs d.1 d.2 q.1 q.2.1 q.2.2 ((List.range j).flatMap fun i => match meetA (atomAt q.2.1 k) (factAt d i) x with
    | some y => emb d q.2.1 m (k + 1) y (fs ++ [(i : Int)])
    | none => []) (j : Int)) (fun j => j <= d.2.length) (fun j => d.2.length - j) (fun o => o = some (emb d q.2.1 (m + 1) k x fs)) (fun t j hj' => by
   simp only [Z7y, Z9w]
   by_cases hj : j < d.2.length
   ·right
    refine ⟨j + 1, hj, by omega, ?_⟩
    have e1 : (j : Int) < (d.2.length : Int) := by omega
    have ho := Y79 (as := q.2.1) hd m k x fs j (by omega)
    obtain ⟨y, c1, c2⟩ := Y78 h hN hkl hj hx
    have ea : at_ (0, []) q.2.1 (k : Int) = atomAt q.2.1 k := by rw [Y3 hkl]; exact (Y2 hkl).symm
    have ef : at_ (0, []) d.2 (j : Int) = factAt d j := Ya hj
    simp only [e1, decide_true, cond_true, Y0 hkl, Y0 hj, grd_true, ea, ef, c1, Option.bind_some, Y1 (j := j) (by omega), Y1 (j := k) (by omega)]
    rw [List.range_succ, List.flatMap_append]
    cases hm : meetA (atomAt q.2.1 k) (factAt d j) x with
    | none =>
     simp only [Option.isSome_none, cond_false, List.flatMap_cons, List.flatMap_nil, hm, List.append_nil]
    | some z =>
     obtain rfl := c2 z hm
     have hl := Y1g (as := q.2.1) hd m (k + 1) y (fs ++ [(j : Int)])
     simp only [Option.isSome_some, cond_true, List.flatMap_cons, List.flatMap_nil, hm, List.append_nil]
     rw [Y4 (by omega) (by simp only [List.length_nil]; omega), grd_true, Y4 (by omega) (by simp only [List.length_singleton]; omega), grd_true, Y4w h hN m f (k + 1) y (fs ++ [(j : Int)]) (by omega) (by omega) ((Y48 hm).trans hx) (by simp; omega), Option.bind_some, Y4 (by omega) (by omega), grd_true]
   ·left
    have : j = d.2.length := by omega
    subst this
    simp only [Int.lt_irrefl, decide_false, cond_false]
    rfl) N 0 (by omega) (by omega)
  exact this
theorem Y7a {N n : Nat} {d : Db} {as : List Atm} (h : QOk d n as) (hN : 1048576 < N) {k i : Nat} (hk : k < as.length) (hi : i < d.2.length) (e : (factAt d i).1 = (atomAt as k).1) {x : List Int} (hx : x.length = n) : ∃ y, Z97 N x (atomAt as k).2 (factAt d i).2 = some (y, (meetA (atomAt as k) (factAt d i) x).isSome) /\ ∀ z, meetA (atomAt as k) (factAt d i) x = some z -> y = z := by
 have hn := h.n4
 obtain ⟨t1, t2⟩ := h.terms k hk
 have hl := h.len k i hk hi e
 unfold Z97 Z0bf meetA
 rw [Yz (by omega), Option.bind_some, if_pos e]
 have := Y28 (N := N) (n := n) t2 hl hn t1 hN N 0 x (by omega) (by omega) hx
 simpa using this
theorem Y4x {N n : Nat} {d : Db} {q : Qry} (h : QOk d n q.2.1) (hN : 1048576 < N) : ∀ (m f k : Nat) (x fs : List Int) (out : List (List Int × List Int)), m < f -> k + m = q.2.1.length -> x.length = n -> fs.length = k -> out.length + 14 ^ m <= 100000 -> Z0q N f x fs q out d q d = some (out ++ emb d q.2.1 m k x fs)
 | _, 0, _, _, _, _, hf, _, _, _, _ => by omega
 | 0, f + 1, k, x, fs, out, hf, hk, hx, hfs, ho => by
  have h3 := h.as3
  have hn := h.n4
  have e : (fs.length : Int) = (q.2.1.length : Int) := by omega
  simp only [Z0q, Z4z, beqI, decide_eq_true e, cond_true, Yz (N := N) (s := x) (by omega), Yz (N := N) (s := fs) (by omega), Option.bind_some, emb]
  rw [Y4 (by omega) (by simp only [List.length_singleton]; omega)]
  rfl
 | m + 1, f + 1, k, x, fs, out, hf, hk, hx, hfs, ho => by
  have h3 := h.as3
  have hn := h.n4
  have hd := h.few
  have hne : ¬ (fs.length : Int) = (q.2.1.length : Int) := by omega
  have hkl : k < q.2.1.length := by omega
  have hfl : fs.length < q.2.1.length := by omega
  have hp := p14 (m := m) (by omega)
  have ea : at_ (0, []) q.2.1 (fs.length : Int) = atomAt q.2.1 k := by rw [Y3 hfl, hfs.symm]; exact (Y2 hfl).symm
  rw [Nat.pow_succ] at ho
  simp only [Z0q, Z4z, beqI, decide_eq_false hne, cond_false, Y0 hfl, grd_true, ea]
  have := loop (fun t (j : Nat) => Z30 N (Z0q N f) t x fs (out ++ (List.range j).flatMap fun i => match meetA (atomAt q.2.1 k) (factAt d i) x with
    | some y => emb d q.2.1 m (k + 1) y (fs ++ [(i : Int)])
    | none => []) q d (atomAt q.2.1 k).1 (atomAt q.2.1 k).2 d.2 (d.2.length : Int) (j : Int)) (fun j => j <= d.2.length) (fun j => d.2.length - j) (fun o => o = some (out ++ emb d q.2.1 (m + 1) k x fs)) (fun t j hj' => by
   simp only [Z30, Z66]
   by_cases hj : j < d.2.length
   ·right
    refine ⟨j + 1, hj, by omega, ?_⟩
    have e1 : (j : Int) < (d.2.length : Int) := by omega
    have hm14 : ∀ j, j <= 13 -> j < d.2.length -> ((List.range j).flatMap fun i => match meetA (atomAt q.2.1 k) (factAt d i) x with
      | some y => emb d q.2.1 m (k + 1) y (fs ++ [(i : Int)])
      | none => []).length <= 13 * 14 ^ m := fun j hj13 _ => by
     have := Yg (n := 14 ^ m) (a := List.range j) (piece := fun i => match meetA (atomAt q.2.1 k) (factAt d i) x with
      | some y => emb d q.2.1 m (k + 1) y (fs ++ [(i : Int)])
      | none => []) fun i _ => by
       split
       ·exact Y1g hd m _ _ _
       ·simp
     rw [List.length_range] at this
     exact Nat.le_trans this (Nat.mul_le_mul_right _ hj13)
    have hlen := hm14 j (by omega) hj
    have ef : at_ (0, []) d.2 (j : Int) = factAt d j := Ya hj
    simp only [e1, decide_true, cond_true, Y0 hj, grd_true, ef, bneI, Y1 (j := j) (by omega)]
    rw [List.range_succ, List.flatMap_append]
    by_cases e : (factAt d j).1 = (atomAt q.2.1 k).1
    ·obtain ⟨y, c1, c2⟩ := Y7a h hN hkl hj e hx
     rw [decide_eq_true e, Bool.not_true, cond_false, c1, Option.bind_some]
     cases hm : meetA (atomAt q.2.1 k) (factAt d j) x with
     | none =>
      simp only [Option.isSome_none, cond_false, List.flatMap_cons, List.flatMap_nil, hm, List.append_nil]
     | some z =>
      obtain rfl := c2 z hm
      simp only [Option.isSome_some, cond_true, List.flatMap_cons, List.flatMap_nil, hm, List.append_nil, Yz (N := N) (s := fs) (by omega), Option.bind_some]
      rw [Y4 (by omega) (by simp only [List.length_singleton]; omega), grd_true, Y4x h hN m f (k + 1) y (fs ++ [(j : Int)]) _ (by omega) (by omega) ((Y48 hm).trans hx) (by simp; omega) (by rw [List.length_append]; omega), Option.bind_some, List.append_assoc]
    ·have hm : meetA (atomAt q.2.1 k) (factAt d j) x = none := by unfold meetA; rw [if_neg e]
     rw [decide_eq_false e, Bool.not_false, cond_true]
     simp only [List.flatMap_cons, List.flatMap_nil, hm, List.append_nil]
   ·left
    have : j = d.2.length := by omega
    subst this
    simp only [Int.lt_irrefl, decide_false, cond_false]
    rfl) N 0 (by omega) (by omega)
  simpa using this
theorem Y7b {N n : Nat} (hn : n <= 4) (hN : 1048576 < N) : Z61 N (n : Int) = some (List.replicate n (-1)) := by
 unfold Z61 Z0ai
 have := loop (fun k (j : Nat) => Z7w N k (n : Int) (List.replicate j (-1))) (fun j => j <= n) (fun j => n - j) (fun o => o = some (List.replicate n (-1))) (fun k j hj' => by
  simp only [Z7w, Z9u, List.length_replicate]
  by_cases hj : j < n
  ·right
   refine ⟨j + 1, hj, by omega, ?_⟩
   have e1 : (j : Int) < (n : Int) := by omega
   rw [decide_eq_true e1, cond_true, Y4 (by omega) (by simp only [List.length_replicate, List.length_singleton]; omega), grd_true, List.replicate_succ']
  ·left
   have : j = n := by omega
   subst this
   simp only [Int.lt_irrefl, decide_false, cond_false]) N 0 (by omega) (by omega)
 exact this
theorem Y7c {N n : Nat} (hn : n <= 4) : Z65 N (n : Int) = some (List.replicate n (-1)) := by
 unfold Z65 Z82
 have e : (decide (([-1] : List Int).length = 1) && (decide ((0 : Int) <= (n : Int)) && decide ((n : Int) * 8 <= 140737488355328))) = true := by
  rw [Bool.and_eq_true, Bool.and_eq_true, decide_eq_true_eq, decide_eq_true_eq, decide_eq_true_eq]
  exact ⟨rfl, by omega, by omega⟩
 rw [e, grd_true, Int.toNat_natCast]
 rfl
def embs (d : Db) (q : Qry) : List (List Int × List Int) := if queryFor d q then emb d q.2.1 q.2.1.length 0 (List.replicate q.1.toNat (-1)) [] else []
theorem Y7d {d : Db} {q : Qry} (h : SmallDb d) (hq : q.2.2.length <= 1048576) (hN : 1048576 < N) : Z2v N d q = some (embs d q) := by
 unfold Z2v embs
 rw [Y1v h hq hN, Option.bind_some]
 cases hf : queryFor d q with
 | false => rfl
 | true =>
  have ho := qOk hf
  have hn := ho.n4
  have h3 := ho.as3
  have hq0 : 0 <= q.1 := by
   unfold queryFor validQ at hf
   simp only [Bool.and_eq_true, decide_eq_true_eq] at hf
   exact hf.2.2.1.1
  have e : Z61 N q.1 = some (List.replicate q.1.toNat (-1)) := by
   have := Y7b (N := N) hn hN
   rwa [show ((q.1.toNat : Nat) : Int) = q.1 by omega] at this
  rw [Bool.not_true, cond_false, e, Option.bind_some, if_pos rfl]
  have := Y4w ho hN q.2.1.length N 0 (List.replicate q.1.toNat (-1)) [] (by omega) (by omega) (by simp) rfl
  rw [show ((0 : Nat) : Int) = 0 from rfl] at this
  unfold Z8o
  rw [this]
  rfl
theorem Y7e {d : Db} {q : Qry} (h : SmallDb d) (hq : q.2.2.length <= 1048576) (hN : 1048576 < N) : Z2w N d q = some (embs d q) := by
 unfold Z2w embs
 rw [Y1w h hq hN, Option.bind_some]
 cases hf : queryFor d q with
 | false => rfl
 | true =>
  have ho := qOk hf
  have hn := ho.n4
  have h3 := ho.as3
  have hq0 : 0 <= q.1 := by
   unfold queryFor validQ at hf
   simp only [Bool.and_eq_true, decide_eq_true_eq] at hf
   exact hf.2.2.1.1
  have e : Z65 N q.1 = some (List.replicate q.1.toNat (-1)) := by
   have := Y7c (N := N) hn
   rwa [show ((q.1.toNat : Nat) : Int) = q.1 by omega] at this
  have hp := p14 h3
  rw [Bool.not_true, cond_false, e, Option.bind_some, if_pos rfl]
  have := Y4x ho hN q.2.1.length N 0 (List.replicate q.1.toNat (-1)) [] [] (by omega) (by omega) (by simp) rfl (by simp only [List.length_nil]; omega)
  unfold Z2t
  rw [this]
  rfl
theorem Y2b {n : Nat} {l : List Int} (hs : l.Pairwise (· < ·)) (hin : ∀ x ∈ l, 0 <= x /\ x < (n : Int)) : validSet n l = true := by
 unfold validSet
 rw [decide_eq_true_eq]
 intro j hj
 have h1 := hin _ (List.getElem_mem hj)
 rw [Bool.and_eq_true, decide_eq_true_eq, Y2 hj]
 refine ⟨by omega, ?_⟩
 by_cases h0 : j = 0
 ·simp [h0]
 ·have h4 : j - 1 < l.length := by omega
  rw [Y2 h4, decide_eq_true (List.pairwise_iff_getElem.1 hs (j - 1) j h4 hj (by omega)), Bool.or_true]
def subDb (d : Db) (l : List Int) : Db := (d.1, l.map fun x => factAt d x.toNat)
theorem Y7z {d : Db} {l : List Int} (h : SmallDb d) (hvb : validDb d = true) (hs : l.Pairwise (· < ·)) (hin : ∀ x ∈ l, 0 <= x /\ x < (d.2.length : Int)) (hl : l.length <= 14) (hN : 1048576 < N) : Z4j N d l = some (subDb d l, true) := by
 have hr := h.rels
 unfold Z4j Z9q
 rw [Yi h hN, Option.bind_some, hvb, Bool.not_true, cond_false, Y7r h (by omega) hN, Option.bind_some, Y2b hs hin, Bool.not_true, cond_false, Y4 (by omega) (by simp only [List.length_nil]; omega), grd_true]
 have := loop (fun k (s : Nat) => Z5h N k l d.1 d.2 [] [] d.1 ((l.take s).map fun x => factAt d x.toNat) (s : Int)) (fun s => s <= l.length) (fun s => l.length - s) (fun o => o = some (subDb d l, true)) (fun k j hj' => by
  simp only [Z5h, Z8p]
  by_cases hj : j < l.length
  ·right
   refine ⟨j + 1, hj, by omega, ?_⟩
   have h1 : (j : Int) < (l.length : Int) := by omega
   have h2 := hin _ (List.getElem_mem hj)
   have h3 : (l[j]).toNat < d.2.length := by omega
   have e : at_ (0, []) d.2 l[j] = factAt d (l[j]).toNat := by
    have := Ya h3
    rwa [show (((l[j]).toNat : Nat) : Int) = l[j] by omega] at this
   have h4 := Yu h h3
   simp only [h1, decide_true, cond_true, Y0 hj, grd_true, Y3 hj, Y8 h2.1 h2.2, e]
   rw [Y4 (by omega) (by simp only [List.length_nil]; omega), grd_true, Y4 (by omega) (by simp; omega), grd_true, Y1 (by omega), List.take_succ_eq_append_getElem hj, List.map_append]
   rfl
  ·left
   have h1 : ¬ (j : Int) < (l.length : Int) := by omega
   simp only [h1, decide_false, cond_false]
   rw [List.take_of_length_le (by omega)]
   rfl) N 0 (by omega) (by omega)
 exact this
theorem Ym {d : Db} {l : List Int} {j : Nat} (hj : j < l.length) : factAt (subDb d l) j = factAt d (l[j]).toNat := by
 show ((l.map fun x => factAt d x.toNat).getD j (0, [])) = _
 rw [Y2 (by simp; exact hj), List.getElem_map]
theorem Y35 {d : Db} {l : List Int} (hvb : validDb d = true) (hs : l.Pairwise (· < ·)) (hin : ∀ x ∈ l, 0 <= x /\ x < (d.2.length : Int)) (hl : l.length <= 14) : validDb (subDb d l) = true := by
 have hv := Y6 hvb
 have hlen : (subDb d l).2.length = l.length := by simp [subDb]
 unfold validDb
 rw [Bool.and_eq_true, Bool.and_eq_true, decide_eq_true_eq, decide_eq_true_eq]
 refine ⟨hv.rels, by omega, fun j hj => ?_⟩
 have hj2 : j < l.length := by omega
 have h1 := hin _ (List.getElem_mem hj2)
 rw [Ym hj2, Bool.and_eq_true]
 refine ⟨hv.fact _ (by omega), ?_⟩
 by_cases h0 : j = 0
 ·simp [h0]
 ·have h4 : j - 1 < l.length := by omega
  have h5 := List.pairwise_iff_getElem.1 hs (j - 1) j h4 hj2 (by omega)
  have h6 := hin _ (List.getElem_mem h4)
  rw [Ym h4, decide_eq_true (hv.lt _ _ (by omega) (by omega)), Bool.or_true]
theorem Y7f {d : Db} (h : SmallDb d) (hf : d.2.length <= 14) (hN : 1048576 < N) : Z40 N d = some d := by
 have hr := h.rels
 unfold Z40 Z9g
 rw [Y4 (by omega) (by simp only [List.length_nil]; omega), grd_true]
 have := loop (fun k (s : Nat) => Z4y N k [] [] d.1 (d.2.take s) d.2 (d.2.length : Int) (s : Int)) (fun s => s <= d.2.length) (fun s => d.2.length - s) (fun o => o = some d) (fun k j hs => by
  simp only [Z4y, Z8c]
  by_cases hj : j < d.2.length
  ·right
   refine ⟨j + 1, hj, by omega, ?_⟩
   have h1 : (j : Int) < (d.2.length : Int) := by omega
   have h3 := h.vals _ (List.getElem_mem hj)
   simp only [h1, decide_true, cond_true, Y0 hj, grd_true, Y3 hj]
   rw [Y4 (by omega) (by simp only [List.length_nil]; omega), grd_true, Y4 (by omega) (by simp; omega), grd_true, Y1 (by omega), List.take_succ_eq_append_getElem hj]
  ·left
   have h1 : ¬ (j : Int) < (d.2.length : Int) := by omega
   simp only [h1, decide_false, cond_false]
   rw [List.take_of_length_le (by omega)]) N 0 (by omega) (by omega)
 simpa using this
theorem Y49 {N : Nat} {d : Db} {l : List Int} (hin : ∀ x ∈ l, 0 <= x /\ x < (d.2.length : Int)) (hl : l.length <= 14) : ∀ (f j : Nat), l.length - j < f -> j <= l.length -> Z5i N f [] [] d.1 d.2 d.1 ((l.take j).map fun x => factAt d x.toNat) l (l.length : Int) (j : Int) = some (subDb d l, true)
 | 0, j, hf, _ => by omega
 | f + 1, j, hf, hj' => by
  simp only [Z5i, Z8t]
  by_cases hj : j < l.length
  ·have h1 : (j : Int) < (l.length : Int) := by omega
   have h2 := hin _ (List.getElem_mem hj)
   have h3 : (l[j]).toNat < d.2.length := by omega
   have e : at_ (0, []) d.2 l[j] = factAt d (l[j]).toNat := by
    have := Ya h3
    rwa [show (((l[j]).toNat : Nat) : Int) = l[j] by omega] at this
   simp only [h1, decide_true, cond_true, Y0 hj, grd_true, Y3 hj, Y8 h2.1 h2.2, e]
   rw [Y4 (by omega) (by simp; omega), grd_true, Y1 (by omega)]
   have := Y49 (N := N) hin hl f (j + 1) (by omega) hj
   rw [List.take_succ_eq_append_getElem hj, List.map_append] at this
   exact this
  ·have : j = l.length := by omega
   subst this
   simp only [Int.lt_irrefl, decide_false, cond_false, List.take_length]
   rfl
theorem Y4a {d : Db} {l : List Int} (h : SmallDb d) (hvb : validDb d = true) (hs : l.Pairwise (· < ·)) (hin : ∀ x ∈ l, 0 <= x /\ x < (d.2.length : Int)) (hl : l.length <= 14) (hN : 1048576 < N) : Z4l N d l = some (subDb d l, true) := by
 have hf := (Y6 hvb).few
 unfold Z4l Z9r
 rw [Y1u h hN, Option.bind_some, hvb, Bool.not_true, cond_false, Y30 h.facts (by omega) hN, Option.bind_some, Y2b hs hin, Bool.not_true, cond_false, Y7f h hf hN, Option.bind_some]
 obtain ⟨M, rfl⟩ : ∃ M, N = M + 1 := ⟨N - 1, by omega⟩
 simp only [Z7i, Z8u]
 by_cases h0 : (0 : Int) < (l.length : Int)
 ·have hj : 0 < l.length := by omega
  have h2 := hin _ (List.getElem_mem hj)
  have h3 : (l[0]).toNat < d.2.length := by omega
  have e : at_ (0, []) d.2 l[0] = factAt d (l[0]).toNat := by
   have := Ya h3
   rwa [show (((l[0]).toNat : Nat) : Int) = l[0] by omega] at this
  have e0 : at_ 0 l 0 = l[0] := Y3 (j := 0) hj
  have i0 : inb 0 l = true := Y0 (j := 0) hj
  simp only [decide_eq_true h0, cond_true, i0, grd_true, e0, Y8 h2.1 h2.2, e]
  rw [Y4 (by omega) (by simp), grd_true]
  have := Y49 (N := M + 1) (d := d) hin hl M 1 (by omega) hj
  rw [show w64 ((0 : Int) + 1) = ((1 : Nat) : Int) from Y1 (j := 0) (by omega)]
  have t1 : l.take 1 = [l[0]] := by
   rw [show 1 = 0 + 1 from rfl, List.take_succ_eq_append_getElem hj]
   simp
  rw [t1] at this
  exact this
 ·have : l = [] := List.length_eq_zero_iff.1 (by omega)
  subst this
  rfl
theorem Y36 {d : Db} {l : List Int} (h : SmallDb d) (hin : ∀ x ∈ l, 0 <= x /\ x < (d.2.length : Int)) (hl : l.length <= 14) : SmallDb (subDb d l) := ⟨h.rels, by simp [subDb]; omega, fun f hf => by
  obtain ⟨x, hx, rfl⟩ := List.mem_map.1 hf
  have := hin x hx
  exact Yu h (by omega)⟩
theorem Y6f {d : Db} {l : List Int} {q : Qry} (h : SmallDb d) (hvb : validDb d = true) (hs : l.Pairwise (· < ·)) (hin : ∀ x ∈ l, 0 <= x /\ x < (d.2.length : Int)) (hl : l.length <= 14) (hq : q.2.2.length <= 1048576) (hN : 1048576 < N) : Z67 N d l q = some (decide (((embs (subDb d l) q).length : Int) > 0)) := by
 unfold Z67
 rw [Y4a h hvb hs hin hl hN, Option.bind_some]
 simp only [cond_true]
 rw [Y7e (Y36 h hin hl) hq hN, Option.bind_some]
def putIn (l : List Int) (x : Int) : Nat -> List Int
 | 0 => x :: l
 | k + 1 => if l.getD k 0 > x then putIn l x k else l.take (k + 1) ++ x :: l.drop (k + 1)
theorem Yq (l : List Int) (x : Int) : ∀ k, k <= l.length -> ∃ j, j <= k /\ putIn l x k = l.take j ++ x :: l.drop j /\ (∀ i (hi : i < l.length), j <= i -> i < k -> l[i] > x) /\ (0 < j -> ∃ (hj : j - 1 < l.length), ¬ l[j - 1] > x)
 | 0, _ => ⟨0, Nat.le_refl _, by simp [putIn], fun i hi h1 h2 => by omega, fun h => by omega⟩
 | k + 1, hk => by
  have hk' : k < l.length := by omega
  simp only [putIn, Y2 hk']
  by_cases h : l[k] > x
  ·rw [if_pos h]
   obtain ⟨j, h1, h2, h3, h4⟩ := Yq l x k (by omega)
   refine ⟨j, by omega, h2, fun i hi g1 g2 => ?_, h4⟩
   by_cases e : i = k
   ·subst e; exact h
   ·exact h3 i hi g1 (by omega)
  ·rw [if_neg h]
   exact ⟨k + 1, Nat.le_refl _, rfl, fun i hi g1 g2 => by omega, fun _ => ⟨by omega, by simpa using h⟩⟩
theorem Y37 {l : List Int} {x y : Int} : y ∈ putIn l x l.length ↔ y = x \/ y ∈ l := by
 obtain ⟨j, _, e, _, _⟩ := Yq l x l.length (Nat.le_refl _)
 rw [e, List.mem_append, List.mem_cons]
 have hl : y ∈ l ↔ y ∈ l.take j \/ y ∈ l.drop j := by
  conv => lhs; rw [<- List.take_append_drop j l]
  rw [List.mem_append]
 rw [hl]
 constructor
 ·rintro (h | h | h)
  ·exact .inr (.inl h)
  ·exact .inl h
  ·exact .inr (.inr h)
 ·rintro (h | h | h)
  ·exact .inr (.inl h)
  ·exact .inl h
  ·exact .inr (.inr h)
theorem Y38 {l : List Int} {x : Int} : (putIn l x l.length).length = l.length + 1 := by
 obtain ⟨j, hj, e, _, _⟩ := Yq l x l.length (Nat.le_refl _)
 rw [e]
 simp only [List.length_append, List.length_take, List.length_cons, List.length_drop]
 omega
def sortI : List Int -> List Int -> List Int
 | [], out => out
 | x :: l, out => sortI l (putIn out x out.length)
theorem Y39 {N k : Nat} {l out : List Int} {s : Nat} (hs : s < l.length) (hl : l.length <= 1000) (ho : out.length <= 1000) : ∀ (f t : Nat), t < f -> t <= out.length -> Z5l (Z3d N k) N f l out (s : Int) (t : Int) = Z3d N k l (putIn out l[s] t) ((s + 1 : Nat) : Int)
 | 0, t, hf, _ => by omega
 | f + 1, 0, hf, ht => by
  have h2 : ¬ ((0 : Nat) : Int) > 0 := by omega
  simp only [Z5l, Z7z, h2, decide_false, cond_false, Int.toNat_natCast, Y0 hs, Y3 hs, grd_true]
  rw [show subOk 0 ((0 : Nat) : Int) out.length = true by simp [subOk], grd_true, Y4 (by omega) (by simp), grd_true, Y4 (by omega) (by simp), grd_true, show subOk ((0 : Nat) : Int) (out.length : Int) out.length = true by simp [subOk], grd_true, Y4 (by omega) (by simp; omega), grd_true, Y1 (by omega)]
  simp [putIn]
 | f + 1, t + 1, hf, ht => by
  have h2 : ((t + 1 : Nat) : Int) > 0 := by omega
  have h3 : t < out.length := ht
  have e1 : w64 (((t + 1 : Nat) : Int) - 1) = (t : Int) := by rw [Y5 (by omega) (by omega)]; omega
  simp only [Z5l, Z7z, h2, decide_true, cond_true, e1, Y0 h3, Y3 h3, Y0 hs, Y3 hs, grd_true, putIn, Y2 h3, Int.toNat_natCast]
  by_cases h : out[t] > l[s]
  ·rw [decide_eq_true h, cond_true, if_pos h]
   exact Y39 hs hl ho f t (by omega) (by omega)
  ·rw [decide_eq_false h, cond_false, if_neg h]
   rw [show subOk 0 ((t + 1 : Nat) : Int) out.length = true by simp [subOk]; omega, grd_true, Y4 (by omega) (by simp; omega), grd_true, Y4 (by omega) (by simp; omega), grd_true, show subOk ((t + 1 : Nat) : Int) (out.length : Int) out.length = true by simp [subOk]; omega, grd_true, Y4 (by omega) (by simp; omega), grd_true, Y1 (by omega)]
   simp
theorem Y3a : ∀ (l out : List Int), (sortI l out).length = l.length + out.length
 | [], out => by simp [sortI]
 | x :: l, out => by rw [sortI, Y3a l, Y38]; simp; omega
theorem Y14 {y : Int} : ∀ (l out : List Int), y ∈ sortI l out ↔ y ∈ l \/ y ∈ out
 | [], out => by simp [sortI]
 | x :: l, out => by rw [sortI, Y14 l, Y37, List.mem_cons, or_left_comm, or_assoc]
theorem Y3b {N : Nat} {l : List Int} (hl : l.length <= 900) (hN : 1048576 < N) : ∀ (f s : Nat) (out : List Int), l.length - s < f -> s <= l.length -> out.length = s -> Z3d N f l out (s : Int) = some (sortI (l.drop s) out)
 | 0, s, out, hf, _, _ => by omega
 | f + 1, s, out, hf, hs, ho => by
  simp only [Z3d, Z9p]
  by_cases h : s < l.length
  ·have h1 : (s : Int) < (l.length : Int) := by omega
   rw [decide_eq_true h1, cond_true, Y39 h (by omega) (by omega) N out.length (by omega) (Nat.le_refl _), Y3b hl hN f (s + 1) _ (by omega) h (by rw [Y38, ho]), List.drop_eq_getElem_cons h, sortI]
  ·have h1 : ¬ (s : Int) < (l.length : Int) := by omega
   rw [decide_eq_false h1, cond_false, List.drop_eq_nil_of_le (by omega), sortI]
theorem Y7g {l : List Int} (hl : l.length <= 900) (hN : 1048576 < N) : Z6o N l = some (sortI l []) := by
 have := Y3b hl hN N 0 [] (by omega) (by omega) rfl
 simpa [Z6o, Z0a5] using this
theorem Y4b {l : List Int} {x : Int} (hs : l.Pairwise (· < ·)) (hx : x ∉ l) : (putIn l x l.length).Pairwise (· < ·) := by
 obtain ⟨j, hj, e, h3, h4⟩ := Yq l x l.length (Nat.le_refl _)
 rw [e]
 have hsplit : (l.take j ++ l.drop j).Pairwise (· < ·) := by rwa [List.take_append_drop]
 rw [List.pairwise_append] at hsplit
 rw [List.pairwise_append, List.pairwise_cons]
 have hlt : ∀ a ∈ l.take j, a < x := by
  intro a ha
  obtain ⟨i, hi, rfl⟩ := List.mem_iff_getElem.1 ha
  have hi' : i < j := by simp at hi; omega
  obtain ⟨hj', hle⟩ := h4 (by omega)
  rw [List.getElem_take]
  have hne : l[j - 1] ≠ x := fun e => hx (e ▸ List.getElem_mem hj')
  have hi2 : i < l.length := by omega
  have : l[i] <= l[j - 1] := by
   by_cases h : i = j - 1
   ·subst h; exact Int.le_refl _
   ·have := List.pairwise_iff_getElem.1 hs i (j - 1) hi2 hj' (by omega)
    omega
  omega
 have hgt : ∀ a ∈ l.drop j, x < a := by
  intro a ha
  obtain ⟨i, hi, rfl⟩ := List.mem_iff_getElem.1 ha
  rw [List.getElem_drop]
  have hi2 : j + i < l.length := by simp at hi; omega
  exact h3 (j + i) hi2 (by omega) hi2
 refine ⟨hsplit.1, ⟨hgt, hsplit.2.1⟩, fun a ha b hb => ?_⟩
 rcases List.mem_cons.1 hb with rfl | hb
 ·exact hlt a ha
 ·exact hsplit.2.2 a ha b hb
theorem Y20 : ∀ (l out : List Int), l.Nodup -> (∀ x ∈ l, x ∉ out) -> out.Pairwise (· < ·) -> (sortI l out).Pairwise (· < ·)
 | [], out, _, _, hs => hs
 | x :: l, out, hn, hd, hs => by
  rw [List.nodup_cons] at hn
  refine Y20 l _ hn.2 (fun y hy h => ?_) (Y4b hs (hd x List.mem_cons_self))
  rcases Y37.1 h with rfl | h
  ·exact hn.1 hy
  ·exact hd y (List.mem_cons_of_mem _ hy) h
def chain (d : Db) (as : List Atm) : Nat -> List Int -> List Int -> Option (List Int)
 | _, x, [] => some x
 | k, x, g :: gs => match meetA (atomAt as k) (factAt d g.toNat) x with
  | some y => chain d as (k + 1) y gs
  | none => none
theorem Yn {d : Db} {as : List Atm} {e : List Int × List Int} : ∀ (m k : Nat) (x fs : List Int), e ∈ emb d as m k x fs ↔ ∃ gs : List Int, gs.length = m /\ (∀ g ∈ gs, 0 <= g /\ g < (d.2.length : Int)) /\ chain d as k x gs = some e.1 /\ e.2 = fs ++ gs
 | 0, k, x, fs => by
  simp only [emb, List.mem_singleton]
  constructor
  ·rintro rfl
   exact ⟨[], rfl, by simp, rfl, by simp⟩
  ·rintro ⟨gs, h1, -, h3, h4⟩
   have : gs = [] := List.length_eq_zero_iff.1 h1
   subst this
   simp only [chain, Option.some.injEq] at h3
   obtain ⟨a, b⟩ := e
   simp only [List.append_nil] at h4
   simp only at h3
   rw [h3, h4]
 | m + 1, k, x, fs => by
  simp only [emb, List.mem_flatMap, List.mem_range]
  constructor
  ·rintro ⟨i, hi, he⟩
   split at he
   ·rename_i y hy
    obtain ⟨gs, h1, h2, h3, h4⟩ := (Yn m (k + 1) y (fs ++ [(i : Int)])).1 he
    refine ⟨(i : Int) :: gs, by simp [h1], fun g hg => ?_, ?_, by rw [h4, List.append_assoc]; rfl⟩
    ·rcases List.mem_cons.1 hg with rfl | hg
     ·omega
     ·exact h2 g hg
    ·simp only [chain, Int.toNat_natCast, hy]
     exact h3
   ·cases he
  ·rintro ⟨gs, h1, h2, h3, h4⟩
   match gs with
   | [] => simp at h1
   | g :: gs =>
    have hg := h2 g List.mem_cons_self
    refine ⟨g.toNat, by omega, ?_⟩
    simp only [chain] at h3
    split at h3
    ·rename_i y hy
     try simp only [hy]
     refine (Yn m (k + 1) y _).2 ⟨gs, by simpa using h1, fun g' hg' => h2 g' (List.mem_cons_of_mem _ hg'), h3, ?_⟩
     rw [h4, List.append_assoc, show ((g.toNat : Nat) : Int) = g by omega]
     rfl
    ·cases h3
theorem Y21 {d : Db} {as : List Atm} : ∀ (gs : List Int) (k : Nat) (x y : List Int), chain d as k x gs = some y -> ∀ j (h : j < gs.length), (factAt d (gs[j]).toNat).1 = (atomAt as (k + j)).1
 | [], k, x, y, _, j, h => by simp at h
 | g :: gs, k, x, y, hc, j, h => by
  simp only [chain] at hc
  split at hc
  ·rename_i z hz
   cases j with
   | zero =>
    unfold meetA at hz
    split at hz
    ·rename_i e; exact e
    ·cases hz
   | succ j =>
    have := Y21 gs (k + 1) z y hc j (by simpa using h)
    rw [show k + (j + 1) = k + 1 + j by omega]
    exact this
  ·cases hc
theorem Y22 {d : Db} {as : List Atm} {s : List Int} : ∀ (gs : List Int) (k : Nat) (x : List Int), (∀ g ∈ gs, 0 <= g /\ g < (s.length : Int)) -> chain (subDb d s) as k x gs = chain d as k x (gs.map fun g => s.getD g.toNat 0)
 | [], k, x, _ => rfl
 | g :: gs, k, x, h => by
  have hg := h g List.mem_cons_self
  have hj : g.toNat < s.length := by omega
  simp only [chain, List.map_cons, Ym hj, Y2 hj]
  split
  ·exact Y22 gs _ _ fun g' hg' => h g' (List.mem_cons_of_mem _ hg')
  ·rfl
theorem Y4l {d : Db} {q : Qry} (h : queryFor d q = true) {i j : Nat} (hi : i < j) (hj : j < q.2.1.length) : (atomAt q.2.1 i).1 ≠ (atomAt q.2.1 j).1 := by
 unfold queryFor validQ at h
 simp only [Bool.and_eq_true, decide_eq_true_eq] at h
 obtain ⟨_, _, _, _, hok, _, _⟩ := h
 have h1 : atomOk d.1 q.1.toNat q.2.1 j = true := of_decide_eq_true hok j hj
 unfold atomOk at h1
 simp only [Bool.and_eq_true, decide_eq_true_eq] at h1
 have h2 := h1.2.2.1
 unfold newRel at h2
 rw [Bool.not_eq_true', List.any_eq_false] at h2
 intro e
 refine h2 (atomAt q.2.1 i) ?_ (decide_eq_true e)
 have hi' : i < q.2.1.length := by omega
 unfold atomAt
 rw [Y2 hi']
 exact List.mem_iff_getElem.2 ⟨i, by simp; omega, by rw [List.getElem_take]⟩
structure EmbOk (d : Db) (e : List Int × List Int) : Prop where
 few : e.2.length <= 3
 ins : ∀ x ∈ e.2, 0 <= x /\ x < (d.2.length : Int)
 apart : ∀ i j (hi : i < j) (hj : j < e.2.length), (factAt d (e.2[i]'(by omega)).toNat).1 ≠ (factAt d (e.2[j]).toNat).1
theorem Y4c {d : Db} {q : Qry} {e : List Int × List Int} (he : e ∈ embs d q) : queryFor d q = true /\ EmbOk d e := by
 unfold embs at he
 split at he
 ·rename_i h
  obtain ⟨gs, h1, h2, h3, h4⟩ := (Yn _ _ _ _).1 he
  rw [List.nil_append] at h4
  have h5 := (qOk h).as3
  obtain ⟨a, b⟩ := e
  simp only at h4 h3
  subst h4
  refine ⟨h, ⟨by simp only; omega, h2, fun i j hi hj => ?_⟩⟩
  simp only at hj
  have r1 := Y21 b 0 _ _ h3 i (by omega)
  have r2 := Y21 b 0 _ _ h3 j hj
  rw [Nat.zero_add] at r1 r2
  simp only
  rw [r1, r2]
  exact Y4l h hi (by omega)
 ·cases he
theorem EmbOk.nodup {d : Db} {e : List Int × List Int} (h : EmbOk d e) : e.2.Nodup := by
 rw [List.Nodup, List.pairwise_iff_getElem]
 intro i j hi hj hij he
 exact h.apart i j hij hj (by rw [he])
theorem Y6g {d : Db} {q : Qry} {s : List Int} (hvb : validDb d = true) (hs : s.Pairwise (· < ·)) (hin : ∀ x ∈ s, 0 <= x /\ x < (d.2.length : Int)) (hl : s.length <= 14) : (embs (subDb d s) q).length > 0 ↔ ∃ e ∈ embs d q, ∀ x ∈ e.2, x ∈ s := by
 have hq : queryFor (subDb d s) q = queryFor d q := by
  unfold queryFor
  rw [hvb, Y35 hvb hs hin hl]
  rfl
 have hlen : (subDb d s).2.length = s.length := by simp [subDb]
 unfold embs
 rw [hq]
 by_cases h : queryFor d q = true
 ·rw [if_pos h, if_pos h]
  constructor
  ·intro hp
   obtain ⟨e, he⟩ := List.exists_mem_of_length_pos hp
   obtain ⟨gs, h1, h2, h3, h4⟩ := (Yn _ _ _ _).1 he
   rw [hlen] at h2
   rw [Y22 gs _ _ h2] at h3
   have hm : ∀ g ∈ gs, s.getD g.toNat 0 ∈ s := fun g hg => by
    have := h2 g hg
    rw [Y2 (show g.toNat < s.length by omega)]
    exact List.getElem_mem _
   refine ⟨(e.1, gs.map fun g => s.getD g.toNat 0), (Yn _ _ _ _).2 ⟨gs.map fun g => s.getD g.toNat 0, by simpa using h1, fun g hg => ?_, h3, by simp⟩, fun x hx => ?_⟩
   ·obtain ⟨g', hg', rfl⟩ := List.mem_map.1 hg
    exact hin _ (hm g' hg')
   ·obtain ⟨g', hg', rfl⟩ := List.mem_map.1 hx
    exact hm g' hg'
  ·rintro ⟨e, he, hes⟩
   obtain ⟨gs, h1, h2, h3, h4⟩ := (Yn _ _ _ _).1 he
   rw [List.nil_append] at h4
   rw [h4] at hes
   have hidx : ∀ x, x ∈ s -> ∃ j, j < s.length /\ s.getD j 0 = x := fun x hx => by
    obtain ⟨j, hj, e⟩ := List.mem_iff_getElem.1 hx
    exact ⟨j, hj, by rw [Y2 hj, e]⟩
   have hf : ∀ x ∈ gs, (s.idxOf x) < s.length /\ s.getD (s.idxOf x) 0 = x := fun x hx => by
    have := List.idxOf_lt_length_of_mem (hes x hx)
    exact ⟨this, by rw [Y2 this]; exact List.getElem_idxOf this⟩
   have hmap : (gs.map fun x => ((s.idxOf x : Nat) : Int)).map (fun g => s.getD g.toNat 0) = gs := by
    rw [List.map_map]
    conv => rhs; rw [<- List.map_id gs]
    exact List.map_congr_left fun x hx => by simpa using (hf x hx).2
   have hr : ∀ g ∈ gs.map (fun x => ((s.idxOf x : Nat) : Int)), 0 <= g /\ g < (s.length : Int) := fun g hg => by
    obtain ⟨x, hx, rfl⟩ := List.mem_map.1 hg
    have := (hf x hx).1
    omega
   refine List.length_pos_of_mem (a := (e.1, gs.map fun x => ((s.idxOf x : Nat) : Int))) ((Yn _ _ _ _).2 ⟨gs.map fun x => ((s.idxOf x : Nat) : Int), by simpa using h1, by rw [hlen]; exact hr, ?_, by simp⟩)
   rw [Y22 _ _ _ hr, hmap]
   exact h3
 ·rw [if_neg h, if_neg h]
  simp
def walk (n : Nat) (E : List (Int × Int)) : Nat -> List Int -> Nat -> List (List Int)
 | 0, s, x => if maxI n E s then [s] else []
 | m + 1, s, x => (if indep E (s ++ [(x : Int)]) then walk n E m (s ++ [(x : Int)]) (x + 1) else []) ++ walk n E m s (x + 1)
theorem Yo {n : Nat} {E : List (Int × Int)} : ∀ (m : Nat) (s : List Int) (x : Nat), (walk n E m s x).length <= 2 ^ m
 | 0, s, x => by simp only [walk]; split <;> simp
 | m + 1, s, x => by
  have h1 := Yo (n := n) (E := E) m (s ++ [(x : Int)]) (x + 1)
  have h2 := Yo (n := n) (E := E) m s (x + 1)
  simp only [walk, List.length_append, Nat.pow_succ]
  split
  ·omega
  ·simp only [List.length_nil]; omega
theorem Y2m {n : Nat} {E : List (Int × Int)} : ∀ (m : Nat) (s : List Int) (x : Nat), s.length <= x -> ∀ r ∈ walk n E m s x, r.length <= x + m
 | 0, s, x, hs, r, hr => by
  simp only [walk] at hr
  split at hr
  ·simp only [List.mem_singleton] at hr; subst hr; omega
  ·simp at hr
 | m + 1, s, x, hs, r, hr => by
  simp only [walk, List.mem_append] at hr
  rcases hr with hr | hr
  ·split at hr
   ·have := Y2m m (s ++ [(x : Int)]) (x + 1) (by simp; omega) r hr
    omega
   ·simp at hr
  ·have := Y2m m s (x + 1) (by omega) r hr
   omega
def touch (x : Int) (e : Int × Int) : Bool := decide (e.1 = x) || decide (e.2 = x)
theorem Y59 {E : List (Int × Int)} {s : List Int} {y : Int} (h : E.any (touch y) = false) (hi : indep E s = true) : indep E (s ++ [y]) = true := by
 unfold indep at *
 rw [List.all_eq_true] at *
 intro e he
 have h1 := hi e he
 have h2 : ¬ (touch y e = true) := fun h3 => by
  have : E.any (touch y) = true := List.any_eq_true.2 ⟨e, he, h3⟩
  rw [h] at this; exact absurd this (by decide)
 have h3 : e.1 ≠ y /\ e.2 ≠ y := by
  simp only [touch, Bool.or_eq_true, decide_eq_true_eq, not_or] at h2
  exact h2
 have m1 : (e.1 ∈ s ++ [y]) ↔ e.1 ∈ s := by simp [h3.1]
 have m2 : (e.2 ∈ s ++ [y]) ↔ e.2 ∈ s := by simp [h3.2]
 simp only [m1, m2]
 exact h1
theorem Y23 {n : Nat} {E : List (Int × Int)} {y : Nat} (hy : y < n) (h : E.any (touch y) = false) : ∀ (m : Nat) (s : List Int) (x : Nat), y < x -> (y : Int) ∉ s -> walk n E m s x = []
 | 0, s, x, hx, hs => by
  simp only [walk]
  rw [if_neg]
  intro hm
  simp only [maxI, Bool.and_eq_true, decide_eq_true_eq] at hm
  have := hm.2.2.2 y hy
  rw [fitsE, decide_eq_false hs, Y59 h hm.2.2.1] at this
  simp at this
 | m + 1, s, x, hx, hs => by
  simp only [walk]
  rw [Y23 hy h m s (x + 1) (by omega) hs, List.append_nil]
  split
  ·exact Y23 hy h m _ (x + 1) (by omega) (by simp only [List.mem_append, List.mem_singleton, not_or]; exact ⟨hs, by omega⟩)
  ·rfl
theorem Y29 {N : Nat} {E : List (Int × Int)} (he : E.length <= 196) (Rf : Int -> List (Int × Int) -> List Int -> Int -> Option (List (List Int))) (n : Int) (s : List Int) (x : Nat) (hx : x <= 1000) (out : List (List Int)) :
  ∀ {f j : Nat} {met : Bool}, E.length - j < f -> j <= E.length -> Z5k N Rf f n E s x out met (j : Int) = bif met || (E.drop j).any (touch x) then ((Rf n E s ((x + 1 : Nat) : Int)).bind fun r4 => grd (appOk out r4 24) <| some (out ++ r4)) else some out
 | 0, j, met, hf, hj => by omega
 | f + 1, j, met, hf, hj => by
  by_cases h : j < E.length
  ·have e1 : (j : Int) < (E.length : Int) := by omega
   simp only [Z5k, Z92, e1, decide_true, cond_true, Y0 h, grd_true, Y3 h, Y1 (j := j) (by omega)]
   rw [Y2l h]
   cases met with
   | true => rw [cond_true, Y29 he Rf n s x hx out (by omega) h]; rfl
   | false =>
    rw [cond_false, beqI, beqI]
    unfold touch
    cases decide (E[j].1 = (x : Int)) with
    | true => rw [cond_true, Y29 he Rf n s x hx out (by omega) h]; rfl
    | false =>
     rw [cond_false, Y29 he Rf n s x hx out (by omega) h]
     simp only [Bool.false_or]
     rfl
  ·have : j = E.length := by omega
   subst this
   simp only [Z5k, Z92, Int.lt_irrefl, decide_false, cond_false, List.drop_length, List.any_nil, Bool.or_false, Y1 (j := x) (by omega)]
theorem Y5a {m : Nat} (h : m <= 14) : 2 ^ m <= 16384 := Nat.pow_le_pow_right (n := 2) (by decide) h
theorem Y2n {N n : Nat} {E : List (Int × Int)} (h : EOk n E) (hN : 1048576 < N) : ∀ (m f : Nat) (s : List Int) (x : Nat), m < f -> x + m = n -> s.length <= x -> (∀ y ∈ s, y < (x : Int)) -> Z3i N f n E s x = some (walk n E m s x)
 | _, 0, _, _, hf, _, _, _ => by omega
 | 0, f + 1, s, x, hf, hx, hl, hs => by
  have hn := h.few
  obtain rfl : x = n := by omega
  simp only [Z3i, Z9y, beqI, decide_true, cond_true, Y7x h (s := s) (by omega) hN, Option.bind_some, walk]
  cases maxI x E s with
  | true => rw [cond_true, Y4 (by omega) (by simp only [List.length_nil]; omega)]; rfl
  | false => rfl
 | m + 1, f + 1, s, x, hf, hx, hl, hs => by
  have hn := h.few
  have hne : ¬ (x : Int) = (n : Int) := by omega
  have hxs : (x : Int) ∉ s := fun hm => by have := hs _ hm; omega
  have i1 := Y2n h hN m f (s ++ [(x : Int)]) (x + 1) (by omega) (by omega) (by simp; omega) (fun y hy => by
   simp only [List.mem_append, List.mem_singleton] at hy
   rcases hy with hy | hy
   ·have := hs y hy; omega
   ·omega)
  have i2 := Y2n h hN m f s (x + 1) (by omega) (by omega) (by omega) (fun y hy => by have := hs y hy; omega)
  have p1 := Yo (n := n) (E := E) m (s ++ [(x : Int)]) (x + 1)
  have p2 := Yo (n := n) (E := E) m s (x + 1)
  have p3 := Y5a (m := m) (by omega)
  have fin : ∀ out : List (List Int), out.length <= 16384 -> Z5k N (Z3i N f) N n E s x out false 0 = some (out ++ walk n E m s (x + 1)) := by
   intro out ho
   have := Y29 (N := N) h.len (Z3i N f) n s x (by omega) out (f := N) (j := 0) (met := false) (by have := h.len; omega) (by omega)
   rw [show ((0 : Nat) : Int) = 0 from rfl] at this
   rw [this, List.drop_zero, Bool.false_or, i2, Option.bind_some, Y4 (by omega) (by omega), grd_true]
   cases ht : E.any (touch x) with
   | true => rfl
   | false => rw [cond_false, Y23 (by omega) ht m s (x + 1) (by omega) hxs, List.append_nil]
  simp only [Z3i, Z9y, beqI, decide_eq_false hne, cond_false, Y47 h.len (show s.length <= 900 by omega) hN, Option.bind_some, fitsE, decide_eq_false hxs, Bool.not_false, Bool.true_and, walk]
  cases indep E (s ++ [(x : Int)]) with
  | true =>
   rw [cond_true, Y4 (by omega) (by simp only [List.length_nil]; omega), Y4 (by omega) (by simp only [List.length_singleton]; omega), grd_true, grd_true, Y1 (by omega), i1, Option.bind_some, fin _ (by omega)]
   rfl
  | false =>
   rw [cond_false, fin [] (by simp)]
   rfl
theorem Y1o {N n : Nat} {E : List (Int × Int)} (h : EOk n E) (hN : 1048576 < N) : ∀ (m f : Nat) (s : List Int) (x : Nat) (out : List (List Int)), m < f -> x + m = n -> s.length <= x -> out.length + 2 ^ m <= 100000 -> Z0k N f x s n E out n E = some (out ++ walk n E m s x)
 | _, 0, _, _, _, hf, _, _, _ => by omega
 | 0, f + 1, s, x, out, hf, hx, hl, ho => by
  have hn := h.few
  obtain rfl : x = n := by omega
  simp only [Z0k, Z2p, beqI, decide_true, cond_true, Y7y h (s := s) (by omega) hN, Option.bind_some, walk]
  cases maxI x E s with
  | true => rw [cond_true, Y4 (by omega) (by simp only [List.length_nil]; omega), Y4 (by omega) (by simp only [List.length_singleton]; omega)]; rfl
  | false => simp
 | m + 1, f + 1, s, x, out, hf, hx, hl, ho => by
  have hn := h.few
  have hne : ¬ (x : Int) = (n : Int) := by omega
  rw [Nat.pow_succ] at ho
  have p1 := Yo (n := n) (E := E) m (s ++ [(x : Int)]) (x + 1)
  simp only [Z0k, Z2p, beqI, decide_eq_false hne, cond_false, Yz (N := N) (s := s) (by omega), Option.bind_some]
  rw [Y4 (by omega) (by simp only [List.length_singleton]; omega), grd_true, Y32 h.len (by simp only [List.length_append, List.length_singleton]; omega) hN, Option.bind_some, Y1 (by omega)]
  simp only [walk]
  cases indep E (s ++ [(x : Int)]) with
  | true =>
   rw [cond_true, Y1o h hN m f (s ++ [(x : Int)]) (x + 1) out (by omega) (by omega) (by simp; omega) (by omega), Option.bind_some, Y1o h hN m f s (x + 1) _ (by omega) (by omega) (by omega) (by rw [List.length_append]; omega), Option.bind_some, List.append_assoc]
   rfl
  | false =>
   rw [cond_false, Y1o h hN m f s (x + 1) out (by omega) (by omega) (by omega) (by omega), Option.bind_some]
   rfl
theorem Y4d {d : Db} {l : List Con} (hv : ValidDb d) : EOk d.2.length (edgesOf d l) := by
 refine ⟨hv.few, Y67 hv l, fun e he => ?_⟩
 unfold edgesOf at he
 obtain ⟨i, hi, he⟩ := List.mem_flatMap.1 he
 unfold edgeR at he
 obtain ⟨k, hk, he⟩ := List.mem_flatMap.1 he
 unfold edgeP at he
 have h1 := List.mem_range.1 hi
 have h2 := List.mem_range'.1 hk
 obtain ⟨q, h3, h4⟩ := h2
 split at he
 ·simp only [List.mem_singleton] at he
  subst he
  simp only
  omega
 ·simp at he
def maxSets (n : Nat) (E : List (Int × Int)) : List (List Int) := if validE E then walk n E n [] 0 else []
theorem Y7h {N n : Nat} {E : List (Int × Int)} (h : EOk n E) (hN : 1048576 < N) : Z0s N n E = some (maxSets n E) := by
 have hn := h.few
 unfold Z0s Z9b maxSets
 rw [Y6d h hN, Option.bind_some]
 cases validE E with
 | false => rfl
 | true =>
  have := Y2n h hN n N [] 0 (by omega) (by omega) (by simp) (by simp)
  rw [show ((0 : Nat) : Int) = 0 from rfl] at this
  rw [Bool.not_true, cond_false, this]
  rfl
theorem Y7i {N n : Nat} {E : List (Int × Int)} (h : EOk n E) (hN : 1048576 < N) : Z0u N n E = some (maxSets n E) := by
 have hn := h.few
 have p := Y5a hn
 unfold Z0u Z0z maxSets
 rw [Y6e h hN, Option.bind_some]
 cases validE E with
 | false => rfl
 | true =>
  have := Y1o h hN n N [] 0 [] (by omega) (by omega) (by simp) (by simp only [List.length_nil]; omega)
  rw [show ((0 : Nat) : Int) = 0 from rfl] at this
  rw [Bool.not_true, cond_false, this]
  rfl
def subsets (d : Db) (l : List Con) : List (List Int) := if validDb d then maxSets d.2.length (edgesOf d l) else []
theorem Y4m {d : Db} {l : List Con} (h : SmallDb d) (hl : l.length <= 1048576) (hN : 1048576 < N) : Z3c N d l = some (subsets d l) := by
 unfold Z3c subsets
 rw [Yi h hN, Option.bind_some]
 cases hv : validDb d with
 | false => rfl
 | true =>
  rw [Bool.not_true, cond_false, Y69 h hl hN, Option.bind_some, hv, if_pos rfl, Y7h (Y4d (Y6 hv)) hN]
  rfl
theorem Y4n {d : Db} {l : List Con} (h : SmallDb d) (hl : l.length <= 1048576) (hN : 1048576 < N) : Z3f N d l = some (subsets d l) := by
 unfold Z3f subsets
 rw [Y1u h hN, Option.bind_some]
 cases hv : validDb d with
 | false => rfl
 | true =>
  rw [Bool.not_true, cond_false, Y6c h hl hN, Option.bind_some, hv, if_pos rfl, Y7i (Y4d (Y6 hv)) hN]
  rfl
theorem Yb (d : Db) (l : List Con) : (subsets d l).length <= 16384 /\ ∀ r ∈ subsets d l, r.length <= 14 := by
 unfold subsets
 by_cases hv : validDb d = true
 ·rw [if_pos hv]
  have hn := (Y6 hv).few
  unfold maxSets
  split
  ·refine ⟨Nat.le_trans (Yo _ _ _) (Y5a hn), fun r hr => ?_⟩
   have := Y2m d.2.length [] 0 (by simp) r hr
   omega
  ·exact ⟨by simp, by simp⟩
 ·rw [if_neg hv]; exact ⟨by simp, by simp⟩
theorem Y2v {n : Nat} {l : List Int} (h : validSet n l = true) : l.Pairwise (· < ·) := by
 have step : ∀ j (hj : j < l.length), 0 < j -> l[j - 1]'(by omega) < l[j] := by
  intro j hj h0
  have := of_decide_eq_true h j hj
  rw [Bool.and_eq_true, Bool.or_eq_true, decide_eq_true_eq, decide_eq_true_eq, decide_eq_true_eq, Y2 hj, Y2 (show j - 1 < l.length by omega)] at this
  rcases this.2 with h1 | h1
  ·omega
  ·exact h1
 rw [List.pairwise_iff_getElem]
 intro i j hi hj hij
 induction j with
 | zero => omega
 | succ j ih =>
  have hs := step (j + 1) hj (by omega)
  simp only [Nat.add_sub_cancel] at hs
  by_cases e : i = j
  ·subst e; exact hs
  ·have := ih (by omega) (by omega)
   omega
theorem Yw {n : Nat} {E : List (Int × Int)} : ∀ (m : Nat) (s : List Int) (x : Nat), ∀ r ∈ walk n E m s x, validSet n r = true
 | 0, s, x, r, hr => by
  simp only [walk] at hr
  split at hr
  ·rename_i hm
   simp only [List.mem_singleton] at hr
   subst hr
   simp only [maxI, Bool.and_eq_true] at hm
   exact hm.2.1
  ·simp at hr
 | m + 1, s, x, r, hr => by
  simp only [walk, List.mem_append] at hr
  rcases hr with hr | hr
  ·split at hr
   ·exact Yw m _ _ r hr
   ·simp at hr
  ·exact Yw m _ _ r hr
theorem Y33 (d : Db) (l : List Con) : ∀ r ∈ subsets d l, r.Pairwise (· < ·) := by
 intro r hr
 unfold subsets at hr
 by_cases hv : validDb d = true
 ·rw [if_pos hv] at hr
  unfold maxSets at hr
  split at hr
  ·exact Y2v (Yw _ _ _ r hr)
  ·simp at hr
 ·rw [if_neg hv] at hr; simp at hr
def cov (d : Db) (q : Qry) (s : List Int) : Bool := (embs d q).any fun e => e.2.all fun x => decide (x ∈ s)
def need (d : Db) (q : Qry) : List (List Int) := (embs d q).map fun e => sortI e.2 []
theorem Y6h {d : Db} {q : Qry} {s : List Int} (hvb : validDb d = true) (hs : s.Pairwise (· < ·)) (hin : ∀ x ∈ s, 0 <= x /\ x < (d.2.length : Int)) (hl : s.length <= 14) : decide (((embs (subDb d s) q).length : Int) > 0) = cov d q s := by
 rw [Bool.eq_iff_iff, decide_eq_true_eq]
 unfold cov
 simp only [List.any_eq_true, List.all_eq_true, decide_eq_true_eq]
 rw [show (((embs (subDb d s) q).length : Int) > 0) ↔ (embs (subDb d s) q).length > 0 by omega, Y6g hvb hs hin hl]
theorem Y4e {d : Db} {q : Qry} : (embs d q).length <= 2744 := by
 unfold embs
 split
 ·rename_i h
  have ho := qOk h
  exact Nat.le_trans (Y1g ho.few _ _ _ _) (p14 ho.as3)
 ·simp
theorem Y4y {d : Db} {q : Qry} {e : List Int × List Int} (he : e ∈ embs d q) : (sortI e.2 []).Pairwise (· < ·) /\ (∀ x ∈ sortI e.2 [], 0 <= x /\ x < (d.2.length : Int)) /\ (sortI e.2 []).length <= 3 := by
 obtain ⟨h, ho⟩ := Y4c he
 refine ⟨Y20 _ _ ho.nodup (by simp) List.Pairwise.nil, fun x hx => ?_, ?_⟩
 ·rw [Y14] at hx
  rcases hx with hx | hx
  ·exact ho.ins x hx
  ·cases hx
 ·have := ho.few
  rw [Y3a]; simp; omega
theorem Y5b {d : Db} {e : List Int × List Int} (ho : EmbOk d e) : ∀ x ∈ sortI e.2 [], ∀ y ∈ sortI e.2 [], x ≠ y -> (factAt d x.toNat).1 ≠ (factAt d y.toNat).1 := by
 intro x hx y hy hxy
 rw [Y14] at hx hy
 have hx := hx.resolve_right (by simp)
 have hy := hy.resolve_right (by simp)
 obtain ⟨i, hi, rfl⟩ := List.mem_iff_getElem.1 hx
 obtain ⟨j, hj, rfl⟩ := List.mem_iff_getElem.1 hy
 rcases Nat.lt_trichotomy i j with h | h | h
 ·exact ho.apart i j h hj
 ·subst h; exact absurd rfl hxy
 ·exact fun e => ho.apart j i h hi e.symm
theorem Y5c {d : Db} {q : Qry} {e : List Int × List Int} (h : SmallDb d) (he : e ∈ embs d q) (hN : 1048576 < N) : Z1w N d (sortI e.2 []) = some true := by
 obtain ⟨hq, ho⟩ := Y4c he
 obtain ⟨l1, l2, l3⟩ := Y4y he
 have hvb : validDb d = true := by unfold queryFor at hq; rw [Bool.and_eq_true] at hq; exact hq.1
 have hap := Y5b ho
 generalize sortI e.2 [] = w at l1 l2 l3 hap
 have hsub := Y35 hvb l1 l2 (by omega)
 have hsm := Y36 h l2 (by omega)
 have hlen : (subDb d w).2.length = w.length := by simp [subDb]
 have hst : (blocksOf (subDb d w)).length = w.length := by
  unfold blocksOf
  rw [if_pos hsub, List.length_map]
  unfold B
  rw [List.length_map, hlen]
  unfold sts
  rw [List.filter_eq_self.2, List.length_range]
  intro s hs
  have hs := List.mem_range.1 hs
  rw [Y2i]
  intro k hk
  have hk' : k < w.length := by omega
  have h1 := List.pairwise_iff_getElem.1 l1 k s hk' hs hk
  have := hap _ (List.getElem_mem hs) _ (List.getElem_mem hk') (by omega)
  unfold sameD sameK
  rw [Ym hs, Ym hk', decide_eq_false this, Bool.false_and]
 unfold Z1w
 rw [Y7z h hvb l1 l2 (by omega) hN, Option.bind_some]
 simp only [cond_true]
 unfold Z53
 rw [Yi hsm hN, Option.bind_some, hsub, cond_true, Y56 hsm hN, Option.bind_some, hst, hlen]
 simp
theorem Y3n {d : Db} {q : Qry} (h : SmallDb d) (hq : q.2.2.length <= 1048576) (hN : 1048576 < N) : Z5n N d q = some (need d q) := by
 have hfew := Y4e (d := d) (q := q)
 unfold Z5n Z9z
 rw [Y7d h hq hN, Option.bind_some]
 have := loop (fun k (s : Nat) => Z6s N k d.1 d.2 (((embs d q).take s).map fun e => sortI e.2 []) (embs d q) (s : Int)) (fun s => s <= (embs d q).length) (fun s => (embs d q).length - s) (fun o => o = some (need d q)) (fun k j hj' => by
  simp only [Z6s, Z9e]
  by_cases hj : j < (embs d q).length
  ·right
   refine ⟨j + 1, hj, by omega, ?_⟩
   have h1 : (j : Int) < ((embs d q).length : Int) := by omega
   have hm := List.getElem_mem hj
   have hfs := (Y4c hm).2.few
   have hp : Z1w N (d.1, d.2) (sortI ((embs d q)[j]).2 []) = some true := Y5c h hm hN
   simp only [h1, decide_true, cond_true, Y0 hj, grd_true, Y3 hj]
   rw [Y7g (by omega) hN, Option.bind_some, hp, Option.bind_some, cond_true, Y4 (by omega) (by simp; omega), grd_true, Y1 (by omega), List.take_succ_eq_append_getElem hj, List.map_append]
   rfl
  ·left
   have h1 : ¬ (j : Int) < ((embs d q).length : Int) := by omega
   simp only [h1, decide_false, cond_false]
   rw [List.take_of_length_le (by omega)]
   rfl) N 0 (by omega) (by omega)
 exact this
theorem Y2o {N k : Nat} {l : List (List Int)} {s : List Int} (hs : s.length <= 1048576) (hN : 1048576 < N) {i : Nat} (hi : i < l.length) (hil : i <= 1048576) : ∀ (f t : Nat) (b : Bool), (l[i]).length - t < f -> t <= (l[i]).length -> (l[i]).length <= 1048576 -> Z8q (Z3p N k) N f l s (i : Int) b (t : Int) = if (b && ((l[i]).drop t).all fun x => decide (x ∈ s)) then some true else Z3p N k l s ((i + 1 : Nat) : Int)
 | 0, t, b, hf, _, _ => by omega
 | f + 1, t, b, hf, ht, hw => by
  simp only [Z8q, Z0a0, Y0 hi, Y3 hi, grd_true]
  by_cases h : t < (l[i]).length
  ·have h1 : (t : Int) < ((l[i]).length : Int) := by omega
   rw [decide_eq_true h1, cond_true, Y0 h, Y3 h, grd_true, Y1 (by omega), List.drop_eq_getElem_cons h, List.all_cons]
   cases b with
   | false =>
    rw [cond_false, Y2o hs hN hi hil f (t + 1) false (by omega) h hw]
    simp
   | true =>
    rw [cond_true, Y31 hs hN, Option.bind_some, Y2o hs hN hi hil f (t + 1) _ (by omega) h hw]
    simp
  ·have h1 : ¬ (t : Int) < ((l[i]).length : Int) := by omega
   rw [decide_eq_false h1, cond_false, List.drop_eq_nil_of_le (by omega), Y1 (by omega)]
   cases b <;> simp
theorem Y4o {l : List (List Int)} {s : List Int} (hs : s.length <= 1048576) (hl : l.length <= 1048576) (hw : ∀ w ∈ l, w.length <= 1048575) (hN : 1048576 < N) : Z4o N l s = some (l.any fun w => w.all fun x => decide (x ∈ s)) := by
 unfold Z4o Z9c Z0b0
 rw [Y7 (n := l.length) (fun j => !((l.getD j []).all fun x => decide (x ∈ s))) (some true) (some false) (fun k i => Z3p N k l s i) (fun k => by simp [Z3p, Z94]) (fun k j hj => ?_) (by omega)]
 ·by_cases h : (l.any fun w => w.all fun x => decide (x ∈ s)) = true
  ·rw [h, if_neg, Option.bind_some]
   intro h'
   obtain ⟨w, hw, hx⟩ := List.any_eq_true.1 h
   obtain ⟨j, hj, rfl⟩ := List.mem_iff_getElem.1 hw
   have := h' j hj
   rw [Y2 hj, hx] at this
   cases this
  ·rw [Bool.not_eq_true] at h
   rw [h, if_pos, Option.bind_some]
   intro j hj
   have := (List.any_eq_false.1 h) _ (List.getElem_mem hj)
   rw [Y2 hj]
   simpa using this
 ·have h1 : (j : Int) < (l.length : Int) := by omega
  have h2 := hw _ (List.getElem_mem hj)
  simp only [Z3p, Z94, h1, decide_true, cond_true]
  have := Y2o (k := k) (l := l) hs hN hj (by omega) N 0 true (by omega) (by omega) (by omega)
  rw [List.drop_zero, Bool.true_and] at this
  rw [show ((0 : Nat) : Int) = 0 from rfl] at this
  rw [this, Y2 hj]
  cases (l[j].all fun x => decide (x ∈ s)) <;> simp
theorem Y80 {d : Db} {q : Qry} {s : List Int} (hs : s.length <= 1048576) (hN : 1048576 < N) : Z4o N (need d q) s = some (cov d q s) := by
 have hfew := Y4e (d := d) (q := q)
 rw [Y4o hs (by unfold need; rw [List.length_map]; omega) (fun w hw => by
  unfold need at hw
  obtain ⟨e, he, rfl⟩ := List.mem_map.1 hw
  have := (Y4y he).2.2
  omega) hN]
 unfold need cov
 rw [List.any_map]
 congr 1
 apply congrArg (fun p => List.any (embs d q) p)
 funext e
 simp only [Function.comp]
 rw [Bool.eq_iff_iff]
 simp [List.all_eq_true, Y14]
theorem Y5d {d : Db} {l : List Con} {r : List Int} (hr : r ∈ subsets d l) : validDb d = true /\ r.Pairwise (· < ·) /\ (∀ x ∈ r, 0 <= x /\ x < (d.2.length : Int)) /\ r.length <= 14 := by
 have h14 := (Yb d l).2 r hr
 have hso := Y33 d l r hr
 unfold subsets at hr
 by_cases hv : validDb d = true
 ·rw [if_pos hv] at hr
  unfold maxSets at hr
  split at hr
  ·have := of_decide_eq_true (Yw _ _ _ r hr)
   refine ⟨hv, hso, fun x hx => ?_, h14⟩
   obtain ⟨j, hj, rfl⟩ := List.mem_iff_getElem.1 hx
   have h1 := this j hj
   rw [Y2 hj] at h1
   simp only [Bool.and_eq_true, decide_eq_true_eq] at h1
   omega
  ·simp at hr
 ·rw [if_neg hv] at hr; simp at hr
def cardN (all : List (List Int)) : Int := all.foldl (fun n s => imax n (s.length : Int)) 0
def cardL (all : List (List Int)) : List (List Int) := all.filter fun s => (s.length : Int) == cardN all
theorem Y3c {α : Type} {p : α -> Bool} {l out : List α} {j : Nat} (h : j < l.length) : out ++ (l.drop j).filter p = (if p l[j] then out ++ [l[j]] else out) ++ (l.drop (j + 1)).filter p := by
 rw [List.drop_eq_getElem_cons h, List.filter_cons]
 cases hp : p l[j] <;> simp
theorem Y7j {α : Type} {ix : List Int} {i : Int} {x : List α} {b : Nat} (h : ∀ k ∈ ix, k < i) (hb : (x.length + 1) * b <= 140737488355328) : selOk ix i x b = true := by
 unfold selOk
 rw [Bool.and_eq_true, List.all_eq_true]
 exact ⟨fun k hk => decide_eq_true (h k hk), decide_eq_true hb⟩
theorem Y6i {ix : List Int} {j : Nat} (h : ∀ k ∈ ix, k < (j : Int)) : ∀ k ∈ ix ++ [(j : Int)], k < ((j + 1 : Nat) : Int) := by
 intro k hk
 rcases List.mem_append.1 hk with h' | h'
 ·have := h k h'; omega
 ·rw [List.mem_singleton] at h'; omega
theorem Y6j {j : Nat} : ∀ k ∈ [(j : Int)], k < ((j + 1 : Nat) : Int) := by
 intro k h'
 rw [List.mem_singleton] at h'; omega
theorem Y7k {ix : List Int} {j : Nat} (h : ∀ k ∈ ix, k < (j : Int)) : ∀ k ∈ ix, k < ((j + 1 : Nat) : Int) := by
 intro k hk
 have := h k hk; omega
theorem Y4f {N : Nat} {all : List (List Int)} (ha : all.length <= 16384) {n : Int} : ∀ {f j : Nat} {ix : List Int} {out : List (List Int)}, all.length - j < f -> j <= all.length -> out.length <= j -> (∀ k ∈ ix, k < (j : Int)) -> Z1m N f ix out all n (j : Int) = some (out ++ (all.drop j).filter fun s => (s.length : Int) == n) /\ Z1p N f n all ix out all (all.length : Int) (j : Int) = some (out ++ (all.drop j).filter fun s => (s.length : Int) == n)
 | 0, j, ix, out, hf, _, _, _ => by omega
 | f + 1, j, ix, out, hf, hj, ho, hx => by
  by_cases h : j < all.length
  ·have e1 : (j : Int) < (all.length : Int) := by omega
   rw [Y3c h]
   simp only [Z1m, Z3k, Z1p, Z3q, e1, decide_true, cond_true, Y0 h, grd_true, Y3 h, Y1 (j := j) (by omega)]
   cases (((all[j]).length : Int) == n) with
   | true =>
    rw [cond_true, cond_true, Y7j hx (by omega), grd_true, grd_true]
    exact Y4f ha (by omega) h (by simp; omega) (Y6i hx)
   | false => exact Y4f ha (by omega) h (by omega) (Y7k hx)
  ·have : j = all.length := by omega
   subst this
   simp only [Z1m, Z3k, Z1p, Z3q, Int.lt_irrefl, decide_false, cond_false]
   simp
theorem Y6k {N : Nat} {all : List (List Int)} (ha : all.length <= 16384) {n : Int} : ∀ {f j : Nat}, all.length - j < f -> j <= all.length -> all.length < N -> Z1n N f [] all n (j : Int) = some ((all.drop j).filter fun s => (s.length : Int) == n) /\ Z1q N f n all [] all (all.length : Int) (j : Int) = some ((all.drop j).filter fun s => (s.length : Int) == n)
 | 0, j, hf, _, _ => by omega
 | f + 1, j, hf, hj, hN => by
  by_cases h : j < all.length
  ·have e1 : (j : Int) < (all.length : Int) := by omega
   have e2 := Y3c (p := fun s : List Int => (s.length : Int) == n) (out := []) h
   rw [List.nil_append] at e2
   rw [e2]
   simp only [Z1n, Z3l, Z1q, Z3r, e1, decide_true, cond_true, Y0 h, grd_true, Y3 h, Y1 (j := j) (by omega)]
   cases (((all[j]).length : Int) == n) with
   | true =>
    rw [cond_true, cond_true, show selOk0 ([] : List (List Int)) 24 = true from rfl, grd_true, grd_true]
    exact Y4f ha (by omega) h (by simp) Y6j
   | false => exact Y6k ha (by omega) h hN
  ·have : j = all.length := by omega
   subst this
   simp only [Z1n, Z3l, Z1q, Z3r, Int.lt_irrefl, decide_false, cond_false]
   simp
theorem Y4g {N : Nat} {all : List (List Int)} (ha : all.length <= 16384) (hN : 1048576 < N) : ∀ {f j : Nat} {n : Int}, all.length - j < f -> j <= all.length -> n = cardN (all.take j) -> Z1o N f [] all n (j : Int) = some (cardL all) /\ Z1r N f n all [] all (all.length : Int) (j : Int) = some (cardL all)
 | 0, j, n, hf, _, _ => by omega
 | f + 1, j, n, hf, hj, hn => by
  by_cases h : j < all.length
  ·have e1 : (j : Int) < (all.length : Int) := by omega
   simp only [Z1o, Z3m, Z1r, Z3s, e1, decide_true, cond_true, Y0 h, grd_true, Y3 h, Y1 (j := j) (by omega)]
   exact Y4g ha hN (by omega) h (by rw [List.take_succ_eq_append_getElem h, cardN, List.foldl_append, hn]; rfl)
  ·have : j = all.length := by omega
   subst this
   rw [List.take_length] at hn
   subst hn
   simp only [Z1o, Z3m, Z1r, Z3s, Int.lt_irrefl, decide_false, cond_false]
   have := Y6k (N := N) ha (n := cardN all) (f := N) (j := 0) (by omega) (by omega) (by omega)
   simpa [cardL] using this
theorem Y6l {d : Db} {l : List Con} (h : SmallDb d) (hl : l.length <= 1048576) (hN : 1048576 < N) : Z1i N d l = some (cardL (subsets d l)) := by
 unfold Z1i Z6t
 rw [Y4m h hl hN, Option.bind_some]
 exact (Y4g (Yb d l).1 hN (f := N) (j := 0) (n := 0) (by have := (Yb d l).1; omega) (by omega) (by simp [cardN])).1
theorem Y6m {d : Db} {l : List Con} (h : SmallDb d) (hl : l.length <= 1048576) (hN : 1048576 < N) : Z1k N d l = some (cardL (subsets d l)) := by
 unfold Z1k Z6w
 rw [Y4n h hl hN, Option.bind_some]
 exact (Y4g (Yb d l).1 hN (f := N) (j := 0) (n := 0) (by have := (Yb d l).1; omega) (by omega) (by simp [cardN])).2
structure Some (d : Db) (l : List Con) (ss : List (List Int)) : Prop where
 few : ss.length <= 16384
 sub : ∀ r ∈ ss, r ∈ subsets d l
theorem Y1p (d : Db) (l : List Con) : Some d l (cardL (subsets d l)) := ⟨Nat.le_trans (List.length_filter_le _ _) (Yb d l).1, fun r h => (List.mem_filter.1 h).1⟩
theorem Y6n {d : Db} {l : List Con} {q : Qry} (h : SmallDb d) (hq : q.2.2.length <= 1048576) (hN : 1048576 < N) {r : List Int} (hr : r ∈ subsets d l) : Z67 N (d.1, d.2) r (q.1, q.2.1, q.2.2) = some (cov d q r) := by
 obtain ⟨hvb, h1, h2, h3⟩ := Y5d hr
 have := Y6f (q := q) h hvb h1 h2 h3 hq hN
 rw [Y6h hvb h1 h2 h3] at this
 exact this
def found (d : Db) (q : Qry) (ss : List (List Int)) (want : Bool) : List Int × Bool := if queryFor d q then (match ss.find? fun r => cov d q r == want with
  | some r => (r, true)
  | none => ([], false)) else ([], false)
theorem Y3d {α : Type} {p : α -> Bool} {l : List α} {j : Nat} (hj : j < l.length) (h0 : (l.take j).find? p = none) : l.find? p = if p l[j] then some l[j] else (l.drop (j + 1)).find? p := by
 conv => lhs; rw [<- List.take_append_drop j l, List.find?_append, h0, Option.none_or, List.drop_eq_getElem_cons hj, List.find?_cons]
 cases hp : p l[j] <;> rfl
theorem Y7l {d : Db} {l : List Con} {q : Qry} {ss : List (List Int)} {want : Bool} (hs : Some d l ss) (h : SmallDb d) (hq : q.2.2.length <= 1048576) (hN : 1048576 < N) : Z7b N d q ss want = some (found d q ss want) := by
 have hfew := hs.few
 unfold Z7b Z0al
 rw [Y3n h hq hN, Option.bind_some]
 have hqf : Z2c N (d.1, d.2) (q.1, q.2.1, q.2.2) = some (queryFor d q) := Y1v h hq hN
 unfold found
 cases hv : queryFor d q with
 | false =>
  obtain ⟨M, rfl⟩ : ∃ M, N = M + 1 := ⟨N - 1, by omega⟩
  simp only [Z6h, Z8l, hqf, hv, Option.bind_some, cond_false]
  cases decide ((0 : Int) < (ss.length : Int)) <;> rfl
 | true =>
  rw [if_pos rfl]
  exact loop (fun k (s : Nat) => Z6h N k ss want d.1 d.2 q.1 q.2.1 q.2.2 (need d q) (s : Int)) (fun s => s <= ss.length /\ (ss.take s).find? (fun r => cov d q r == want) = none) (fun s => ss.length - s) (fun o => o = some (match ss.find? fun r => cov d q r == want with
  | some r => (r, true)
  | none => ([], false))) (fun k j hs' => by
   obtain ⟨hj', h0⟩ := hs'
   simp only [Z6h, Z8l]
   by_cases hj : j < ss.length
   ·have h1 : (j : Int) < (ss.length : Int) := by omega
    have h14 := (Yb d l).2 _ (hs.sub _ (List.getElem_mem hj))
    rw [decide_eq_true h1, cond_true, hqf, Option.bind_some, hv, cond_true, Y0 hj, grd_true, Y3 hj, Y80 (by omega) hN, Option.bind_some, Y1 (j := j) (by omega)]
    cases hcv : (cov d q ss[j] == want) with
    | true =>
     left
     rw [Y3d hj h0, cond_true, grd_true, Y4 (by omega) (by simp only [List.length_nil]; omega), grd_true]
     simp [hcv]
    | false =>
     right
     refine ⟨j + 1, ⟨hj, ?_⟩, by omega, by rw [cond_false]⟩
     rw [List.take_succ_eq_append_getElem hj, List.find?_append, h0]
     simp [hcv]
   ·left
    have h1 : ¬ (j : Int) < (ss.length : Int) := by omega
    rw [List.take_of_length_le (by omega)] at h0
    rw [decide_eq_false h1, cond_false, h0]) N 0 (by omega) ⟨by omega, by simp⟩
theorem Y5e {d : Db} {l : List Con} {q : Qry} {ss : List (List Int)} (hs : Some d l ss) (h : SmallDb d) (hq : q.2.2.length <= 1048576) (hN : 1048576 < N) : Z41 N d ss q = some (found d q ss false) := by
 have hfew := hs.few
 unfold Z41 Z9h
 have hqf : Z2d N (d.1, d.2) (q.1, q.2.1, q.2.2) = some (queryFor d q) := Y1w h hq hN
 exact loop (fun k (s : Nat) => Z50 N k ss d.1 d.2 q.1 q.2.1 q.2.2 ss (ss.length : Int) (s : Int)) (fun s => s <= ss.length /\ (queryFor d q = true -> (ss.take s).find? (fun r => cov d q r == false) = none)) (fun s => ss.length - s) (fun o => o = some (found d q ss false)) (fun k j hs' => by
  obtain ⟨hj', h0⟩ := hs'
  simp only [Z50, Z8d]
  unfold found
  by_cases hj : j < ss.length
  ·have h1 : (j : Int) < (ss.length : Int) := by omega
   rw [decide_eq_true h1, cond_true, Y0 hj, grd_true, Y3 hj, hqf, Option.bind_some, Y1 (j := j) (by omega)]
   cases hv : queryFor d q with
   | false =>
    right
    exact ⟨j + 1, ⟨hj, fun e => by cases e⟩, by omega, rfl⟩
   | true =>
    rw [cond_true, Y6n h hq hN (hs.sub _ (List.getElem_mem hj)), Option.bind_some, if_pos rfl]
    cases hcv : cov d q ss[j] with
    | false =>
     left
     rw [Y3d hj (h0 hv)]
     simp [hcv]
    | true =>
     right
     refine ⟨j + 1, ⟨hj, fun _ => ?_⟩, by omega, rfl⟩
     rw [List.take_succ_eq_append_getElem hj, List.find?_append, h0 hv]
     simp [hcv]
  ·left
   have h1 : ¬ (j : Int) < (ss.length : Int) := by omega
   rw [List.take_of_length_le (by omega)] at h0
   rw [decide_eq_false h1, cond_false]
   cases hv : queryFor d q with
   | false => rfl
   | true => rw [if_pos rfl, h0 hv]) N 0 (by omega) ⟨by omega, by simp⟩
theorem Y6o {d : Db} {l : List Con} {q : Qry} {ss : List (List Int)} (hs : Some d l ss) : (found d q ss false).1.length <= 14 := by
 unfold found
 split
 ·split
  ·rename_i r hr
   exact (Yb d l).2 _ (hs.sub _ (List.mem_of_find?_eq_some hr))
  ·simp
 ·simp
theorem Y24 {d : Db} {l : List Con} {q : Qry} (h : SmallDb d) (hl : l.length <= 1048576) (hq : q.2.2.length <= 1048576) (hN : 1048576 < N) : Z0j N d l q = some (found d q (cardL (subsets d l)) false) := by
 unfold Z0j
 rw [Y6l h hl hN, Option.bind_some, Y7l (Y1p d l) h hq hN]
 rfl
theorem Y25 {d : Db} {l : List Con} {q : Qry} (h : SmallDb d) (hl : l.length <= 1048576) (hq : q.2.2.length <= 1048576) (hN : 1048576 < N) : Z0c N d l q = some (found d q (cardL (subsets d l)) false) := by
 unfold Z0c
 rw [Y6m h hl hN, Option.bind_some, Y5e (Y1p d l) h hq hN]
 rfl
theorem law_CardinalityFalsifyingRepair (hN : 1048576 < N) {d : T_Database} {l : T_DenialConstraintS} {q : T_Query} (hd : in_Database d) (hl : in_DenialConstraintS l) (hq : in_Query q) : laws_FnExactCardinalityFalsifyingRepair N d l q = some true := by
 unfold laws_FnExactCardinalityFalsifyingRepair
 rw [Y3t hd (by omega) (by omega) hN, Option.bind_some]
 by_cases h1 : (s_Database d : Int) <= 1048576
 case neg => rw [Y9 h1]; rfl
 rw [Yd h1, Yy (by omega), cond_false, Y1d hl (by omega) (by omega) hN, Option.bind_some]
 by_cases h2 : (s_DenialConstraintS l : Int) <= 1048576 - (s_Database d : Int)
 case neg => rw [Y9 h2]; rfl
 rw [Yd h2, Yy (by omega), cond_false, Y5u hq (by omega) (by omega) hN, Option.bind_some]
 by_cases h3 : (s_Query q : Int) <= 1048576 - (s_Database d : Int) - (s_DenialConstraintS l : Int)
 case neg => rw [Y9 h3]; rfl
 rw [Yd h3, Yy (by omega), cond_false]
 have hb : b_Database d := Y3l (by omega)
 have hbl : b_DenialConstraintS l := Y15 (by omega)
 have hbq : b_Query q := Y51 (by omega)
 have hm := mtOk hN
 have hs := Y7w hb
 have hll : l.length <= 1048576 := hbl
 have hq4 : q.2.2.length <= 1048576 := hbq.2
 have hrl := Y6o (q := q) (Y1p d l)
 have hr : b_IntS (found d q (cardL (subsets d l)) false).1 := Nat.le_trans hrl (by omega)
 have hcd := Y3u d
 have hcl := Y1e l
 have hcq := Y5v q
 have hcr := Y5x (found d q (cardL (subsets d l)) false).1
 simp only [Y3r hb hN, Y1b hbl hN, Y5s hbq hN, Option.bind_some, Y24 hs hll hq4 hN, Y25 hs hll hq4 hN, Y1h hr hN, Y3s hb hN, Y1c hbl hN, Y5t hbq hN, decide_true, Bool.not_true, cond_false, beq_self_eq_true]
 rw [Y3v hm hb (by omega) (by omega) hN, Option.bind_some]
 simp only
 rw [Y1f hbl (by omega) (by omega) hN, Option.bind_some]
 simp only
 rw [Y5w hbq (by omega) (by omega) hN, Option.bind_some]
 simp only
 rw [Yy (by omega), cond_false, Y1i hr (by omega) (by omega) hN, Option.bind_some]
 simp only [Y6q hr (show (0 : Int) <= 1 by omega) (by omega) hN, Option.bind_some]
 rw [Yy (by omega)]
 simp
end Go.PL
