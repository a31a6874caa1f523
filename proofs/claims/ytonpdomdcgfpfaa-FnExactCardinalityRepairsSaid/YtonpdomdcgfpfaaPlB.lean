/- The plain law of the functions read plainly. Conditions: those that stand in each theorem. -/
import Derived.Test.YtonpdomdcgfpfaaPlA

set_option linter.unusedVariables false
set_option linter.unusedSimpArgs false
set_option linter.unnecessarySimpa false

namespace Go.PL
variable {N : Nat}
theorem Y5 {x : Int} (h1 : -9223372036854775808 <= x) (h2 : x <= 9223372036854775807) : w64 x = x := by
 unfold w64 IntKind.wrap
 simp [IntKind.bits, IntKind.signed]
 omega
theorem Y1 {j : Nat} (h : j < 4611686018427387904) : w64 ((j : Int) + 1) = ((j + 1 : Nat) : Int) := by
 rw [Y5 (by omega) (by omega)]; omega
@[simp] theorem grd_true {α : Type} (x : Option α) : grd true x = x := rfl
@[simp] theorem grd_false {α : Type} (x : Option α) : grd false x = none := rfl
theorem Yf {α : Type} {b : Int} (h : b ≠ 0) (x : Option α) : grz b x = x := by simp [grz, h]
@[simp] theorem letv_eq {α β : Type} (v : α) (k : α -> β) : letv v k = k v := rfl
theorem Y4p {α : Type} (j : Nat) (xs : List α) : inb (j : Int) xs = decide (j < xs.length) := by
 simp [inb]
theorem Y0 {α : Type} {j : Nat} {xs : List α} (h : j < xs.length) : inb (j : Int) xs = true := by simp [Y4p, h]
theorem Y2 {α : Type} {d : α} {j : Nat} {xs : List α} (h : j < xs.length) : at_ d xs (j : Int) = xs[j] := by simp [at_, h]
theorem Yq {n : Nat} {b : Nat} (h : n * b <= 140737488355328) : makeOk (n : Int) b = true := by
 have h1 : (n : Int) * (b : Int) <= 140737488355328 := by rw [<- Int.natCast_mul]; omega
 have h2 : (0 : Int) <= n := by omega
 simp only [makeOk, h1, h2, decide_true, Bool.and_self]
theorem Y1s (bs : ByteArray) : ∀ (m i : Nat) (r : List UInt8), bs.size - i = m -> ByteArray.toList.loop bs i r = r.reverse ++ bs.data.toList.drop i
 | 0, i, r, h => by
  have hs : bs.data.toList.length = bs.size := rfl
  unfold ByteArray.toList.loop
  rw [if_neg (by omega), List.drop_of_length_le (by omega)]; simp
 | m + 1, i, r, h => by
  have hs : bs.data.toList.length = bs.size := rfl
  unfold ByteArray.toList.loop
  rw [if_pos (by omega), Y1s bs m (i + 1) _ (by omega)]
  have hi : i < bs.data.toList.length := by omega
  rw [List.drop_eq_getElem_cons hi]
  have hi2 : i < bs.data.size := by simpa using hi
  have : bs.get! i = bs.data.toList[i] := by
   show bs.data[i]! = _
   rw [getElem!_pos bs.data i hi2]; simp
  rw [this]; simp
theorem Y1a (bs : ByteArray) : bs.toList = bs.data.toList := by
 unfold ByteArray.toList; rw [Y1s bs _ 0 [] rfl]; simp
theorem Y1t (a b : ByteArray) : seq a b = decide (a = b) := by
 unfold seq
 rw [Y1a, Y1a]
 by_cases h : a = b
 ·subst h; simp
 ·have : ¬ a.data = b.data := fun h2 => h (ByteArray.ext h2)
  simp [h, this]
theorem bneI (a b : Int) : (a != b) = !decide (a = b) := by by_cases h : a = b <;> simp [h]
theorem beqI (a b : Int) : (a == b) = decide (a = b) := by by_cases h : a = b <;> simp [h]
theorem Yj {p : Prop} [Decidable p] {α : Type} (x y : Option α) : (bif !decide p then x else y) = if decide p then y else x := by by_cases h : p <;> simp [h]
theorem loop {σ R : Type} (f : Nat -> σ -> Option R) (I : σ -> Prop) (μ : σ -> Nat) (Q : Option R -> Prop) (hstep : ∀ k s, I s -> Q (f (k + 1) s) \/ ∃ s', I s' /\ μ s' < μ s /\ f (k + 1) s = f k s') : ∀ (k : Nat) (s : σ), μ s < k -> I s -> Q (f k s)
 | 0, s, hk, hs => by omega
 | k + 1, s, hk, hs => by
  rcases hstep k s hs with h | ⟨s', h1, h2, h3⟩
  ·exact h
  ·rw [h3]
   exact loop f I μ Q hstep k s' (by omega) h1
theorem Y24 {α : Type} {out a : List α} {j : Nat} {y : α} (h1 : j < a.length) (h2 : j < out.length) (ht : out.take j = a.take j) (hy : y = a[j]) : (out.set j y).take (j + 1) = a.take (j + 1) := by
 subst hy
 rw [List.take_set, List.take_succ_eq_append_getElem h2, List.take_succ_eq_append_getElem h1, ht]
 simp [List.set_append_right, List.length_take, Nat.min_eq_left (Nat.le_of_lt h1)]
theorem fill {β : Type} {b : List β} (f : Nat -> List β -> Int -> Option (List β)) (hend : ∀ k out, f (k + 1) out (b.length : Int) = some out)
  (hstep : ∀ k out j (h : j < b.length), out.length = b.length -> f (k + 1) out (j : Int) = f k (out.set j b[j]) ((j + 1 : Nat) : Int)) {k : Nat} (hk : b.length < k) {out : List β} (ho : out.length = b.length) : f k out 0 = some b := by
 have := loop (fun k (s : List β × Nat) => f k s.1 (s.2 : Int)) (fun s => s.1.length = b.length /\ s.2 <= b.length /\ s.1.take s.2 = b.take s.2) (fun s => b.length - s.2) (fun o => o = some b) (fun k s hs => by
  obtain ⟨out, j⟩ := s
  obtain ⟨h1, h2, h3⟩ := hs
  simp only at h1 h2 h3 ⊢
  by_cases hj : j < b.length
  ·right
   exact ⟨(out.set j b[j], j + 1), ⟨by simp [h1], hj, Y24 hj (by omega) h3 rfl⟩, by simp only; omega, hstep k out j hj h1⟩
  ·left
   have : j = b.length := by omega
   subst this
   rw [hend, <- List.take_of_length_le (Nat.le_of_eq h1), h3, List.take_length]) k (out, 0) (by simpa using hk) ⟨ho, by simp, by simp⟩
 exact this
theorem Yr {n : Nat} (p : Nat -> Bool) (f : Nat -> Int -> Option Bool) (hend : ∀ k, f (k + 1) (n : Int) = some true) (hstep : ∀ k j, j < n -> f (k + 1) (j : Int) = if p j then f k ((j + 1 : Nat) : Int) else some false) {k : Nat} (hk : n < k) : f k 0 = some (decide (∀ j, j < n -> p j = true)) := by
 have := loop (fun k (j : Nat) => f k (j : Int)) (fun j => j <= n /\ ∀ i, i < j -> p i = true) (fun j => n - j) (fun o => o = some (decide (∀ j, j < n -> p j = true))) (fun k j hs => by
  obtain ⟨h1, h2⟩ := hs
  by_cases hj : j < n
  ·rw [hstep k j hj]
   cases hp : p j with
   | true =>
    right
    exact ⟨j + 1, ⟨hj, fun i hi => by rcases Nat.lt_or_eq_of_le (Nat.le_of_lt_succ hi) with h | h; exact h2 i h; rw [h]; exact hp⟩, by omega, by simp⟩
   | false =>
    left
    have : ¬ ∀ j, j < n -> p j = true := fun h => by have := h j hj; rw [hp] at this; simp at this
    simp [this]
  ·left
   have : j = n := by omega
   subst this
   rw [hend]
   simp only [Option.some.injEq]
   symm
   simpa using h2) k 0 (by simpa using hk) ⟨by omega, by omega⟩
 exact this
theorem Y8 {R : Type} {n : Nat} (p : Nat -> Bool) (no e : Option R) (f : Nat -> Int -> Option R) (hend : ∀ k, f (k + 1) (n : Int) = e) (hstep : ∀ k j, j < n -> f (k + 1) (j : Int) = if p j then f k ((j + 1 : Nat) : Int) else no) {k : Nat} (hk : n < k) : f k 0 = if ∀ j, j < n -> p j = true then e else no := by
 have := loop (fun k (j : Nat) => f k (j : Int)) (fun j => j <= n /\ ∀ i, i < j -> p i = true) (fun j => n - j) (fun o => o = if ∀ j, j < n -> p j = true then e else no) (fun k j hs => by
  obtain ⟨h1, h2⟩ := hs
  by_cases hj : j < n
  ·rw [hstep k j hj]
   cases hp : p j with
   | true =>
    right
    exact ⟨j + 1, ⟨hj, fun i hi => by rcases Nat.lt_or_eq_of_le (Nat.le_of_lt_succ hi) with h | h; exact h2 i h; rw [h]; exact hp⟩, by omega, by simp⟩
   | false =>
    left
    have : ¬ ∀ j, j < n -> p j = true := fun h => by have := h j hj; rw [hp] at this; simp at this
    simp [this]
  ·left
   have : j = n := by omega
   subst this
   rw [hend, if_pos h2]) k 0 (by simpa using hk) ⟨by omega, by omega⟩
 exact this
theorem first {n : Nat} (p : Nat -> Bool) (f : Nat -> Int -> Option Int) (hend : ∀ k, f (k + 1) (n : Int) = some (-1)) (hstep : ∀ k j, j < n -> f (k + 1) (j : Int) = if p j then some (j : Int) else f k ((j + 1 : Nat) : Int)) {k : Nat} (hk : n < k) :
  (∃ j, j < n /\ p j = true /\ (∀ i, i < j -> p i = false) /\ f k 0 = some (j : Int)) \/ ((∀ i, i < n -> p i = false) /\ f k 0 = some (-1)) := by
 have := loop (fun k (j : Nat) => f k (j : Int)) (fun j => j <= n /\ ∀ i, i < j -> p i = false) (fun j => n - j) (fun o => (∃ j, j < n /\ p j = true /\ (∀ i, i < j -> p i = false) /\ o = some (j : Int)) \/ ((∀ i, i < n -> p i = false) /\ o = some (-1))) (fun k j hs => by
  obtain ⟨h1, h2⟩ := hs
  by_cases hj : j < n
  ·rw [hstep k j hj]
   cases hp : p j with
   | true => left; left; exact ⟨j, hj, hp, h2, rfl⟩
   | false =>
    right
    exact ⟨j + 1, ⟨hj, fun i hi => by rcases Nat.lt_or_eq_of_le (Nat.le_of_lt_succ hi) with h | h; exact h2 i h; rw [h]; exact hp⟩, by omega, by simp⟩
  ·left; right
   have : j = n := by omega
   subst this
   exact ⟨h2, hend k⟩) k 0 (by simpa using hk) ⟨by omega, by omega⟩
 exact this
theorem Y7 {j : Nat} (h : 0 < j) (h2 : j < 4611686018427387904) : w64 ((j : Int) - 1) = ((j - 1 : Nat) : Int) := by
 rw [Y5 (by omega) (by omega)]; omega
theorem Y9 {α : Type} {i : Int} {xs : List α} (h0 : 0 <= i) (h : i < xs.length) : inb i xs = true := by simp [inb, h0, h]
theorem Y3g {α : Type} {d : α} {i : Int} {xs : List α} (h0 : 0 <= i) (h : i < xs.length) : at_ d xs i = xs[i.toNat]'(by omega) := by
 unfold at_
 rw [List.getD_eq_getElem?_getD, List.getElem?_eq_getElem (by omega)]
 rfl
def in_int (x : Int) : Prop := IntKind.min .i64 <= x /\ x <= IntKind.max .i64
def in_str (x : ByteArray) : Prop := x.size <= 9223372036854775807
def s_str (x : ByteArray) : Nat := x.size
def b_str (x : ByteArray) : Prop := x.size <= 1048576
theorem Y47 {x : ByteArray} (h : s_str x <= 1048576) : b_str x := h
theorem bneB (a b : Bool) : (a != b) = !decide (a = b) := by cases a <;> cases b <;> rfl
theorem beqB (a b : Bool) : (a == b) = decide (a = b) := by cases a <;> cases b <;> rfl
theorem Yb {α : Type} [DecidableEq α] {a b : List α} (h : a.length = b.length) : (a = b) ↔ ∀ j, j < a.length -> (decide (a[j]? = b[j]?)) = true := by
 constructor
 ·rintro rfl j _; simp
 ·intro h2
  apply List.ext_getElem?
  intro j
  by_cases hj : j < a.length
  ·simpa using h2 j hj
  ·rw [List.getElem?_eq_none (by omega), List.getElem?_eq_none (by omega)]
def sub1 (l : Int) (s : Nat) : Int := if (s : Int) <= l then l - s else -1
theorem Yg {l : Int} {s : Nat} (h : (s : Int) <= l) : sub1 l s = l - s := if_pos h
theorem Yc {l : Int} {s : Nat} (h : ¬ (s : Int) <= l) : sub1 l s = -1 := if_neg h
def sumL {α : Type} (s : α -> Nat) (a : List α) : Nat := a.length + (a.map s).sum
theorem Y1k {α : Type} {s : α -> Nat} {a : List α} {m : Nat} (h : sumL s a <= m) : a.length <= m := Nat.le_trans (Nat.le_add_right _ _) h
theorem Y33 {α : Type} {s : α -> Nat} : ∀ {a : List α} {y : α}, y ∈ a -> s y <= (a.map s).sum
 | [], y, h => by simp at h
 | x :: a, y, h => by
  rcases List.mem_cons.1 h with rfl | h
  ·simp
  ·have := Y33 (s := s) h
   simp only [List.map_cons, List.sum_cons]; omega
theorem Y1l {α : Type} {s : α -> Nat} {a : List α} {y : α} (h : y ∈ a) : s y <= sumL s a := Nat.le_trans (Y33 h) (Nat.le_add_left _ _)
theorem szL {α : Type} {a : List α} {s : α -> Nat} {g : α -> Int -> Option Int} {f : Nat -> Int -> Int -> Option Int} (hg : ∀ x ∈ a, ∀ l : Int, 0 <= l -> l <= 1048576 -> g x l = some (sub1 l (s x)))
  (hend : ∀ k l, f (k + 1) l (a.length : Int) = some l) (hstep : ∀ k l j (h : j < a.length), f (k + 1) l (j : Int) = (g a[j] l).bind fun r => bif decide (r < 0) then some (-1) else f k r ((j + 1 : Nat) : Int))
  {k : Nat} (hk : a.length < k) {l : Int} (h0 : 0 <= l) (h1 : l <= 1048576) : f k l 0 = some (sub1 l ((a.map s).sum)) := by
 have := loop (fun k (q : Int × Nat) => f k q.1 (q.2 : Int)) (fun q => 0 <= q.1 /\ q.1 <= 1048576 /\ q.2 <= a.length /\ sub1 q.1 (((a.drop q.2).map s).sum) = sub1 l ((a.map s).sum)) (fun q => a.length - q.2) (fun o => o = some (sub1 l ((a.map s).sum))) (fun k q hs => by
  obtain ⟨v, j⟩ := q
  obtain ⟨g0, g1, g2, g3⟩ := hs
  simp only at g0 g1 g2 g3 ⊢
  by_cases hj : j < a.length
  ·rw [hstep k v j hj, hg a[j] (List.getElem_mem hj) v g0 g1, Option.bind_some]
   rw [List.drop_eq_getElem_cons hj, List.map_cons, List.sum_cons] at g3
   by_cases hc : (s a[j] : Int) <= v
   ·right
    refine ⟨(v - s a[j], j + 1), ⟨by simp only; omega, by simp only; omega, hj, ?_⟩, by simp only; omega, ?_⟩
    ·rw [<- g3]; simp only [sub1]; split <;> split <;> omega
    ·rw [Yg hc, decide_eq_false (by omega), cond_false]
   ·left
    rw [Yc hc, decide_eq_true (by omega), cond_true]
    rw [<- g3, Yc (by omega)]
  ·left
   have : j = a.length := by omega
   subst this
   rw [hend]
   rw [List.drop_length] at g3
   rw [<- g3]; simp [sub1, g0]) k (l, 0) (by simpa using hk) ⟨h0, h1, by simp, by simp⟩
 exact this
def mkL {α : Type} (c : α -> Nat) (mv : α -> Int -> α) : List α -> Int -> List α
 | [], _ => []
 | x :: r, k => mv x k :: mkL c mv r (k + (c x : Int))
def costL {α : Type} (c : α -> Nat) (a : List α) : Nat := (a.map c).sum
theorem Y1m {α : Type} {c : α -> Nat} (h : ∀ x, c x <= 8) : ∀ a : List α, costL c a <= 8 * a.length
 | [] => by simp [costL]
 | x :: a => by
  have h1 := h x
  have h2 := Y1m h a
  simp only [costL, List.map_cons, List.sum_cons, List.length_cons] at h2 ⊢; omega
theorem Ys {α : Type} {c s : α -> Nat} (h : ∀ x, c x <= 8 + 8 * s x) : ∀ a : List α, costL c a <= 8 * sumL s a
 | [] => by simp [costL, sumL]
 | x :: a => by
  have h1 := h x
  have h2 := Ys h a
  simp only [costL, sumL, List.map_cons, List.sum_cons, List.length_cons] at h2 ⊢; omega
theorem Y1u {α : Type} (c : α -> Nat) (mv : α -> Int -> α) : ∀ (a : List α) (k : Int), (mkL c mv a k).length = a.length
 | [], k => rfl
 | x :: a, k => by simp [mkL, Y1u c mv a]
theorem Yx {α : Type} {xs : List α} {j : Nat} {v : α} {i : Int} : inb i (xs.set j v) = inb i xs := by simp [inb]
theorem Y1b {α : Type} {d : α} {xs : List α} {j : Nat} {v : α} (h : j < xs.length) : at_ d (xs.set j v) (j : Int) = v := by simp [at_, h]
theorem Yy {α : Type} {xs : List α} {j : Nat} {a b : α} : (xs.set j a).set j b = xs.set j b := by simp
theorem Yl {x : Int} (h0 : 0 <= x) (h1 : x <= 4611686018427387904) : w64 x = x := Y5 (by omega) (by omega)
theorem Yk {x : Int} (h : 0 <= x) : decide (x < 0) = false := decide_eq_false (by omega)
theorem Y1v {α : Type} {c : α -> Nat} {mv : α -> Int -> α} {P : α -> Prop} {f : Nat -> List α -> Int -> Int -> Option (List α × Int)}
  (hend : ∀ k a2 k2 (j : Nat), j = a2.length -> f (k + 1) a2 k2 (j : Int) = some (a2, k2))
  (hstep : ∀ k a2 k2 (j : Nat) (h : j < a2.length), P a2[j] -> 0 <= k2 -> k2 + (c a2[j] : Int) <= 4611686018427387904 -> j < 1048576 -> f (k + 1) a2 k2 (j : Int) = f k (a2.set j (mv a2[j] k2)) (k2 + (c a2[j] : Int)) ((j + 1 : Nat) : Int))
  {a : List α} (hP : ∀ y ∈ a, P y) {k0 : Int} (h0 : 0 <= k0) (h1 : k0 + (costL c a : Int) <= 4611686018427387904) (hl : a.length <= 1048576) {k : Nat} (hk : a.length < k) : f k a k0 0 = some (mkL c mv a k0, k0 + (costL c a : Int)) := by
 have := loop (fun k (q : List α × Int × Nat) => f k q.1 q.2.1 (q.2.2 : Int)) (fun q => ∃ done, q.1 = done ++ a.drop q.2.2 /\ done.length = q.2.2 /\ q.2.2 <= a.length /\ done ++ mkL c mv (a.drop q.2.2) q.2.1 = mkL c mv a k0 /\ q.2.1 + (costL c (a.drop q.2.2) : Int) = k0 + (costL c a : Int) /\ 0 <= q.2.1) (fun q => a.length - q.2.2) (fun o => o = some (mkL c mv a k0, k0 + (costL c a : Int))) (fun k q hs => by
  obtain ⟨a2, k2, j⟩ := q
  obtain ⟨done, g1, g2, g3, g4, g5, g6⟩ := hs
  simp only at g1 g2 g3 g4 g5 g6 ⊢
  by_cases hj : j < a.length
  ·right
   rw [List.drop_eq_getElem_cons hj] at g1 g4 g5
   have hj2 : j < a2.length := by rw [g1]; simp; omega
   have ha2 : a2[j] = a[j] := by
    have : a2[j]? = some a[j] := by rw [g1, List.getElem?_append_right (by omega), g2]; simp
    rw [List.getElem?_eq_getElem hj2] at this
    exact Option.some.inj this
   simp only [costL, List.map_cons, List.sum_cons, Int.natCast_add] at g5
   have hcost : 0 <= (((a.drop (j + 1)).map c).sum : Int) := by omega
   refine ⟨(a2.set j (mv a2[j] k2), k2 + (c a2[j] : Int), j + 1), ⟨done ++ [mv a[j] k2], ?_, by simp [g2], hj, ?_, ?_, by simp only; omega⟩, by simp only; omega, ?_⟩
   ·simp only
    rw [ha2, g1, List.set_append_right _ _ (by omega), g2, Nat.sub_self, List.set_cons_zero, List.append_assoc]
    rfl
   ·simp only [ha2]
    rw [<- g4]; simp [mkL]
   ·rw [ha2]; simp only [costL] at g5 ⊢; omega
   ·exact hstep k a2 k2 j hj2 (by rw [ha2]; exact hP _ (List.getElem_mem hj)) g6 (by rw [ha2]; simp only [costL] at g5 h1 ⊢; omega) (by omega)
  ·left
   have hja : j = a.length := by omega
   subst hja
   rw [List.drop_length] at g1 g4 g5
   rw [hend k a2 k2 a.length (by rw [g1]; simp [g2])]
   simp only [mkL, List.append_nil] at g1 g4
   simp only [costL, List.map_nil, List.sum_nil] at g5
   rw [g1, g4]
   simp only [costL] at g5 ⊢
   congr 2; omega) k (a, k0, 0) (by simpa using hk) ⟨[], by simp, rfl, by simp, by simp, by simp, h0⟩
 exact this
theorem Y4o {α : Type} {c : α -> Nat} {mv : α -> Int -> α} {P : α -> Prop} {f : Nat -> List α -> Int -> Int -> Option Int}
  (hend : ∀ k a2 k2 (j : Nat), j = a2.length -> f (k + 1) a2 k2 (j : Int) = some k2)
  (hstep : ∀ k a2 k2 (j : Nat) (y : α) (h : j < a2.length), P y -> 0 <= k2 -> k2 + (c y : Int) <= 4611686018427387904 -> j < 1048576 -> a2[j] = mv y k2 -> f (k + 1) a2 k2 (j : Int) = f k a2 (k2 + (c y : Int)) ((j + 1 : Nat) : Int))
  {a : List α} (hP : ∀ y ∈ a, P y) {k0 : Int} (h0 : 0 <= k0) (h1 : k0 + (costL c a : Int) <= 4611686018427387904) (hl : a.length <= 1048576) {k : Nat} (hk : a.length < k) : f k (mkL c mv a k0) k0 0 = some (k0 + (costL c a : Int)) := by
 have hlen := Y1u c mv a k0
 have := loop (fun k (q : Int × Nat) => f k (mkL c mv a k0) q.1 (q.2 : Int)) (fun q => q.2 <= a.length /\ (mkL c mv a k0).drop q.2 = mkL c mv (a.drop q.2) q.1 /\ q.1 + (costL c (a.drop q.2) : Int) = k0 + (costL c a : Int) /\ 0 <= q.1) (fun q => a.length - q.2) (fun o => o = some (k0 + (costL c a : Int))) (fun k q hs => by
  obtain ⟨k2, j⟩ := q
  obtain ⟨g3, g4, g5, g6⟩ := hs
  simp only at g3 g4 g5 g6 ⊢
  by_cases hj : j < a.length
  ·right
   have hj2 : j < (mkL c mv a k0).length := by omega
   rw [List.drop_eq_getElem_cons hj2, List.drop_eq_getElem_cons hj] at g4
   simp only [mkL, List.cons.injEq] at g4
   rw [List.drop_eq_getElem_cons hj] at g5
   simp only [costL, List.map_cons, List.sum_cons, Int.natCast_add] at g5
   have hcost : 0 <= (((a.drop (j + 1)).map c).sum : Int) := by omega
   refine ⟨(k2 + (c a[j] : Int), j + 1), ⟨hj, g4.2, ?_, by simp only; omega⟩, by simp only; omega, ?_⟩
   ·simp only [costL] at g5 ⊢; omega
   ·exact hstep k _ k2 j a[j] hj2 (hP _ (List.getElem_mem hj)) g6 (by simp only [costL] at g5 h1 ⊢; omega) (by omega) g4.1
  ·left
   have hja : j = a.length := by omega
   subst hja
   rw [List.drop_length] at g5
   rw [hend k _ k2 a.length hlen.symm]
   simp only [costL, List.map_nil, List.sum_nil] at g5 ⊢
   congr 1; omega) k (k0, 0) (by simpa using hk) ⟨by simp, by simp, by simp, h0⟩
 exact this
theorem ofB1 (x : Int) : (ofBytes [x]).size = 1 := rfl
theorem Y1i {N : Nat} : ∀ (m : Nat) (k : Int) (out : ByteArray) (f : Nat), 0 <= k -> k <= 9223372036854775807 -> k < 10 ^ m -> out.size + m <= 1000 -> m < f -> ∃ s, Z3f N f k out = some s
 | 0, k, out, f, h0, hbig, h1, h2, h3 => by
  obtain ⟨f, rfl⟩ : ∃ f', f = f' + 1 := ⟨f - 1, by omega⟩
  have hk : ¬ k > 0 := by
   have : k < 1 := by simpa using h1
   omega
  simp only [Z3f, Z4i, hk, decide_false, cond_false]
  have : catOk (⟨#[109]⟩ : ByteArray) out = true := decide_eq_true (by show 1 + out.size <= _; omega)
  rw [this, grd_true]
  exact ⟨_, rfl⟩
 | m + 1, k, out, f, h0, hbig, h1, h2, h3 => by
  obtain ⟨f, rfl⟩ : ∃ f', f = f' + 1 := ⟨f - 1, by omega⟩
  by_cases hk : k > 0
  ·simp only [Z3f, Z4i, hk, decide_true, cond_true]
   have hc : ∀ x : Int, catOk (ofBytes [x]) out = true := fun x => decide_eq_true (by rw [ofB1]; omega)
   rw [Yf (by decide), hc, grd_true, Yf (by decide)]
   have hd0 : 0 <= k.tdiv 10 := Int.tdiv_nonneg h0 (by decide)
   have hp : (10 : Int) ^ (m + 1) = 10 ^ m * 10 := Int.pow_succ _ _
   have hd1 : k.tdiv 10 < 10 ^ m := by
    rw [Int.tdiv_eq_ediv_of_nonneg h0]
    have := Int.ediv_lt_of_lt_mul (a := k) (b := 10 ^ m) (c := 10) (by decide) (by rw [<- hp]; exact h1)
    exact this
   have hle : k.tdiv 10 <= k := by rw [Int.tdiv_eq_ediv_of_nonneg h0]; exact Int.ediv_le_self _ h0
   rw [Y5 (by omega) (by omega)]
   exact Y1i m _ _ f hd0 (by omega) hd1 (by rw [ByteArray.size_append, ofB1]; omega) (by omega)
  ·simp only [Z3f, Z4i, hk, decide_false, cond_false]
   have : catOk (⟨#[109]⟩ : ByteArray) out = true := decide_eq_true (by show 1 + out.size <= _; omega)
   rw [this, grd_true]
   exact ⟨_, rfl⟩
def mkTx (N : Nat) (k : Int) : ByteArray := (Z2o N k).getD ⟨#[]⟩
def MtOk (N : Nat) : Prop := ∀ k : Int, 0 <= k -> k <= 4611686018427387904 -> Z2o N k = some (mkTx N k)
theorem Y4y (h : MtOk N) {k : Int} (h0 : 0 <= k) (h1 : k <= 4611686018427387904) : Z2o N k = some (mkTx N k) := h k h0 h1
theorem mtOk (hN : 1048576 < N) : MtOk N := by
 intro k h0 h1
 have : ∃ s, Z2o N k = some s := by
  unfold Z2o Z6l
  by_cases hk : k <= 0
  ·exact ⟨_, by rw [decide_eq_true hk]; rfl⟩
  ·rw [decide_eq_false hk, cond_false]
   exact Y1i 19 k _ N h0 (by omega) (by omega) (by decide) (by omega)
 obtain ⟨s, hs⟩ := this
 rw [mkTx, hs]; rfl
abbrev T_IntS := List Int
def in_IntS (a : T_IntS) : Prop := a.length <= 9223372036854775807 /\ ∀ y ∈ a, in_int y
def s_IntS (a : T_IntS) : Nat := a.length
def b_IntS (a : T_IntS) : Prop := a.length <= 1048576
theorem Y22 {a : T_IntS} (h : s_IntS a <= 1048576) : b_IntS a := h
theorem Y48 {a : T_IntS} (h : b_IntS a) (hN : 1048576 < N) : Z5l N a = some a := by
 have hl : a.length <= 1048576 := h
 unfold Z5l Z74
 rw [Yq (by omega), grd_true]
 refine fill (b := a) (fun k out i => Z50 N k a out i) (fun k out => by simp [Z50, Z5x]) (fun k out j h1 h3 => ?_) (by omega) (by simp)
 have h2 : j < out.length := by omega
 have hj : (j : Int) < (a.length : Int) := by omega
 simp [Z50, Z5x, hj, Y0 h1, Y0 h2, Y2 h1, Y1 (j := j) (by omega)]
theorem Y2c {a b : T_IntS} (h : b_IntS a) (hN : 1048576 < N) : Z4f N a b = some (decide (a = b)) := by
 have hla : a.length <= 1048576 := h
 unfold Z4f Z78
 by_cases hl : a.length = b.length
 ·have h0 : ((a.length : Int) != (b.length : Int)) = false := by simp [hl]
  rw [h0, cond_false, decide_eq_decide.2 (Yb hl)]
  refine Yr (n := a.length) (fun j => decide (a[j]? = b[j]?)) (fun k i => Z51 N k a b i) (fun k => by simp [Z51, Z64]) (fun k j hj => ?_) (by omega)
  have h1 : (j : Int) < (a.length : Int) := by omega
  have h2 : j < b.length := by omega
  simp only [Z51, Z64, h1, decide_true, cond_true, Y0 hj, Y0 h2, grd_true, Y2 hj, Y2 h2, bneI, Yj, Y1 (j := j) (by omega), List.getElem?_eq_getElem hj, List.getElem?_eq_getElem h2, Option.some.injEq]
 ·have h0 : ((a.length : Int) != (b.length : Int)) = true := by simp; omega
  rw [h0, cond_true]
  have : a ≠ b := fun h => hl (by rw [h])
  simp [this]
theorem Y49 {a : T_IntS} {l : Int} (h : in_IntS a) (h0 : 0 <= l) (h1 : l <= 1048576) (hN : 1048576 < N) : Z5k N a l = some (sub1 l (s_IntS a)) := by
 have := h.1
 unfold Z5k s_IntS sub1
 rw [Y5 (by omega) (by omega)]
 by_cases h : (a.length : Int) <= l
 ·rw [if_pos h, decide_eq_false (by omega)]; rfl
 ·rw [if_neg h, decide_eq_true (by omega)]; rfl
def me_IntS (N : Nat) (x : Int) (k : Int) : Int := k
def ce_IntS (x : Int) : Nat := 1
def mk_IntS (N : Nat) (a : T_IntS) (k : Int) : T_IntS := mkL ce_IntS (me_IntS N) a k
def c_IntS (a : T_IntS) : Nat := costL ce_IntS a
theorem Y2d (a : T_IntS) : c_IntS a <= 8 * s_IntS a := Y1m (c := ce_IntS) (fun x => by show 1 <= 8; omega) a
theorem Y2e {a : T_IntS} {k : Int} (h : b_IntS a) (h0 : 0 <= k) (h1 : k + (c_IntS a : Int) <= 4611686018427387904) (hN : 1048576 < N) : Z39 N a k = some (mk_IntS N a k, k + (c_IntS a : Int)) := by
 have hla : a.length <= 1048576 := h
 unfold Z39 Z6m
 refine Y1v (P := fun y => True) (f := fun k a2 k2 i => Z47 N k a2 k2 i) (fun k a2 k2 j hj => by subst hj; simp [Z47, Z5i]) (fun k a2 k2 j h1 hy h0 hc hl => ?_) (fun _ _ => trivial) h0 h1 (by omega) (by omega)
 have h2 : (j : Int) < (a2.length : Int) := by omega
 simp only [ce_IntS, Int.natCast_add, Int.cast_ofNat_Int, Int.natCast_one] at hc
 simp (disch := first | assumption | omega) only [Z47, Z5i, h2, decide_true, cond_true, Y0 h1, Yx, grd_true, Yf, letv_eq, Y2 h1, Y1b, Yy, Int.toNat_natCast, Yl, Y1, Option.bind_some, Option.bind_some]
 simp only [ce_IntS, me_IntS, Int.natCast_add, Int.cast_ofNat_Int, Int.natCast_one, Int.add_assoc]
theorem Y4a {a : T_IntS} {k : Int} (h : b_IntS a) (h0 : 0 <= k) (h1 : k + (c_IntS a : Int) <= 4611686018427387904) (hN : 1048576 < N) : Z4u N (mk_IntS N a k) k = some (k + (c_IntS a : Int)) := by
 have hla : a.length <= 1048576 := h
 unfold Z4u Z6o
 refine Y4o (P := fun y => True) (f := fun k a2 k2 i => Z4b N k a2 k2 i) (fun k a2 k2 j hj => by subst hj; simp [Z4b, Z5j]) (fun k a2 k2 j y h1 hy h0 hc hl he => ?_) (fun _ _ => trivial) h0 h1 (by omega) (by omega)
 have h2 : (j : Int) < (a2.length : Int) := by omega
 simp only [ce_IntS, Int.natCast_add, Int.cast_ofNat_Int, Int.natCast_one] at hc
 simp only [Z4b, Z5j, h2, decide_true, cond_true, Y0 h1, grd_true, Y2 h1, he, me_IntS]
 simp (disch := first | assumption | omega) only [bneI, bneB, beqB, decide_true, Bool.not_true, cond_false, Yl, Y1, Option.bind_some, Yk, Yf, Int.add_assoc, Option.bind_some]
 simp only [ce_IntS, Int.natCast_add, Int.cast_ofNat_Int, Int.natCast_one, Int.add_assoc]
abbrev T_IntSS := List T_IntS
def s_IntSS (a : T_IntSS) : Nat := sumL s_IntS a
def b_IntSS (a : T_IntSS) : Prop := a.length <= 1048576 /\ ∀ y ∈ a, b_IntS y
theorem Y3c {a : T_IntSS} (h : s_IntSS a <= 1048576) : b_IntSS a := ⟨(Y1k h), fun y hy => Y22 (Nat.le_trans (Y1l hy) h)⟩
theorem Y3h {a b : T_IntSS} (h : b_IntSS a) (hN : 1048576 < N) : Z3q N a b = some (decide (a = b)) := by
 have hla : a.length <= 1048576 := h.1
 unfold Z3q Z6u
 by_cases hl : a.length = b.length
 ·have h0 : ((a.length : Int) != (b.length : Int)) = false := by simp [hl]
  rw [h0, cond_false, decide_eq_decide.2 (Yb hl)]
  refine Yr (n := a.length) (fun j => decide (a[j]? = b[j]?)) (fun k i => Z4o N k a b i) (fun k => by simp [Z4o, Z5t]) (fun k j hj => ?_) (by omega)
  have h1 : (j : Int) < (a.length : Int) := by omega
  have h2 : j < b.length := by omega
  simp only [Z4o, Z5t, h1, decide_true, cond_true, Y0 hj, Y0 h2, grd_true, Y2 hj, Y2 h2, Y2c (h.2 _ (List.getElem_mem hj)) hN, Option.bind_some, Yj, Y1 (j := j) (by omega), List.getElem?_eq_getElem hj, List.getElem?_eq_getElem h2, Option.some.injEq]
 ·have h0 : ((a.length : Int) != (b.length : Int)) = true := by simp; omega
  rw [h0, cond_true]
  have : a ≠ b := fun h => hl (by rw [h])
  simp [this]
def me_IntSS (N : Nat) (x : T_IntS) (k : Int) : T_IntS := mk_IntS N x k
def ce_IntSS (x : T_IntS) : Nat := c_IntS x
def mk_IntSS (N : Nat) (a : T_IntSS) (k : Int) : T_IntSS := mkL ce_IntSS (me_IntSS N) a k
def c_IntSS (a : T_IntSS) : Nat := costL ce_IntSS a
theorem Y3i (a : T_IntSS) : c_IntSS a <= 8 * s_IntSS a := Ys (c := ce_IntSS) (fun x => by have := Y2d x; show c_IntS x <= 8 + 8 * s_IntS x; omega) a
theorem Y3j {a : T_IntSS} {k : Int} (h : b_IntSS a) (h0 : 0 <= k) (h1 : k + (c_IntSS a : Int) <= 4611686018427387904) (hN : 1048576 < N) : Z4a N a k = some (mk_IntSS N a k, k + (c_IntSS a : Int)) := by
 have hla : a.length <= 1048576 := h.1
 unfold Z4a Z6h
 refine Y1v (P := fun y => b_IntS y) (f := fun k a2 k2 i => Z3v N k a2 k2 i) (fun k a2 k2 j hj => by subst hj; simp [Z3v, Z59]) (fun k a2 k2 j h1 hy h0 hc hl => ?_) h.2 h0 h1 (by omega) (by omega)
 have h2 : (j : Int) < (a2.length : Int) := by omega
 simp only [ce_IntSS, Int.natCast_add, Int.cast_ofNat_Int, Int.natCast_one] at hc
 simp (disch := first | assumption | omega) only [Z3v, Z59, h2, decide_true, cond_true, Y0 h1, Yx, grd_true, Yf, letv_eq, Y2 h1, Y1b, Yy, Int.toNat_natCast, Yl, Y1, Option.bind_some, Y2e]
 simp only [ce_IntSS, me_IntSS, Int.natCast_add, Int.cast_ofNat_Int, Int.natCast_one, Int.add_assoc]
theorem Y3k {a : T_IntSS} {k : Int} (h : b_IntSS a) (h0 : 0 <= k) (h1 : k + (c_IntSS a : Int) <= 4611686018427387904) (hN : 1048576 < N) : Z3i N (mk_IntSS N a k) k = some (k + (c_IntSS a : Int)) := by
 have hla : a.length <= 1048576 := h.1
 unfold Z3i Z6i
 refine Y4o (P := fun y => b_IntS y) (f := fun k a2 k2 i => Z3w N k a2 k2 i) (fun k a2 k2 j hj => by subst hj; simp [Z3w, Z5a]) (fun k a2 k2 j y h1 hy h0 hc hl he => ?_) h.2 h0 h1 (by omega) (by omega)
 have h2 : (j : Int) < (a2.length : Int) := by omega
 simp only [ce_IntSS, Int.natCast_add, Int.cast_ofNat_Int, Int.natCast_one] at hc
 simp only [Z3w, Z5a, h2, decide_true, cond_true, Y0 h1, grd_true, Y2 h1, he, me_IntSS]
 simp (disch := first | assumption | omega) only [bneI, bneB, beqB, decide_true, Bool.not_true, cond_false, Yl, Y1, Option.bind_some, Yk, Yf, Int.add_assoc, Y4a]
 simp only [ce_IntSS, Int.natCast_add, Int.cast_ofNat_Int, Int.natCast_one, Int.add_assoc]
abbrev T_Relation := ByteArray × Int × Int
def in_Relation (x : T_Relation) : Prop := in_str x.1 /\ in_int x.2.1 /\ in_int x.2.2
def s_Relation (x : T_Relation) : Nat := s_str x.1
def b_Relation (x : T_Relation) : Prop := b_str x.1
theorem Y25 {x : T_Relation} (h : s_Relation x <= 1048576) : b_Relation x := Y47 (by unfold s_Relation at h; omega)
theorem Y2f {x : T_Relation} (h : b_Relation x) (hN : 1048576 < N) : Z3m N x = some x := by
 simp [Z3m]
theorem Y2g {x y : T_Relation} (h : b_Relation x) (hN : 1048576 < N) : Z3r N x y = some (decide (x = y)) := by
 simp only [Z3r, bneI, bneB, beqB, Y1t, Option.bind_some]
 obtain ⟨x0, x1, x2⟩ := x
 obtain ⟨y0, y1, y2⟩ := y
 simp only [Prod.mk.injEq]
 by_cases e0 : x0 = y0 <;>
 by_cases e1 : x1 = y1 <;>
 by_cases e2 : x2 = y2 <;> simp [e0, e1, e2]
theorem Y2h {x : T_Relation} {l : Int} (h : in_Relation x) (h0 : 0 <= l) (h1 : l <= 1048576) (hN : 1048576 < N) : Z2y N x l = some (sub1 l (s_Relation x)) := by
 have : x.1.size <= 9223372036854775807 := h.1
 unfold Z2y s_Relation s_str sub1
 rw [Y5 (by omega) (by omega)]
 by_cases h : (x.1.size : Int) <= l
 ·rw [if_pos h, decide_eq_false (by omega)]; rfl
 ·rw [if_neg h, decide_eq_true (by omega)]; rfl
abbrev T_RelationS := List T_Relation
def in_RelationS (a : T_RelationS) : Prop := a.length <= 9223372036854775807 /\ ∀ y ∈ a, in_Relation y
def s_RelationS (a : T_RelationS) : Nat := sumL s_Relation a
def b_RelationS (a : T_RelationS) : Prop := a.length <= 1048576 /\ ∀ y ∈ a, b_Relation y
theorem Y1y {a : T_RelationS} (h : s_RelationS a <= 1048576) : b_RelationS a := ⟨(Y1k h), fun y hy => Y25 (Nat.le_trans (Y1l hy) h)⟩
theorem Y26 {a : T_RelationS} (h : b_RelationS a) (hN : 1048576 < N) : Z3b N a = some a := by
 have hl : a.length <= 1048576 := h.1
 unfold Z3b Z6a
 rw [Yq (by omega), grd_true]
 refine fill (b := a) (fun k out i => Z31 N k a out i) (fun k out => by simp [Z31, Z4l]) (fun k out j h1 h3 => ?_) (by omega) (by simp)
 have h2 : j < out.length := by omega
 have hj : (j : Int) < (a.length : Int) := by omega
 simp [Z31, Z4l, hj, Y0 h1, Y0 h2, Y2 h1, Y2f (h.2 _ (List.getElem_mem h1)) hN, Y1 (j := j) (by omega)]
theorem Y27 {a b : T_RelationS} (h : b_RelationS a) (hN : 1048576 < N) : Z3e N a b = some (decide (a = b)) := by
 have hla : a.length <= 1048576 := h.1
 unfold Z3e Z6c
 by_cases hl : a.length = b.length
 ·have h0 : ((a.length : Int) != (b.length : Int)) = false := by simp [hl]
  rw [h0, cond_false, decide_eq_decide.2 (Yb hl)]
  refine Yr (n := a.length) (fun j => decide (a[j]? = b[j]?)) (fun k i => Z33 N k a b i) (fun k => by simp [Z33, Z4p]) (fun k j hj => ?_) (by omega)
  have h1 : (j : Int) < (a.length : Int) := by omega
  have h2 : j < b.length := by omega
  simp only [Z33, Z4p, h1, decide_true, cond_true, Y0 hj, Y0 h2, grd_true, Y2 hj, Y2 h2, Y2g (h.2 _ (List.getElem_mem hj)) hN, Option.bind_some, Yj, Y1 (j := j) (by omega), List.getElem?_eq_getElem hj, List.getElem?_eq_getElem h2, Option.some.injEq]
 ·have h0 : ((a.length : Int) != (b.length : Int)) = true := by simp; omega
  rw [h0, cond_true]
  have : a ≠ b := fun h => hl (by rw [h])
  simp [this]
theorem Y28 {a : T_RelationS} {l : Int} (h : in_RelationS a) (h0 : 0 <= l) (h1 : l <= 1048576) (hN : 1048576 < N) : Z3a N a l = some (sub1 l (s_RelationS a)) := by
 have hlen := h.1
 unfold Z3a Z69
 rw [Y5 (by omega) (by omega)]
 by_cases hc : (a.length : Int) <= l
 ·rw [decide_eq_false (by omega), cond_false]
  rw [szL (a := a) (s := s_Relation) (g := fun x l => Z2y N x l) (f := fun k l i => Z30 N k a l i) (fun x hx l h0 h1 => Y2h (h.2 x hx) h0 h1 hN) (fun k l => by simp [Z30, Z4j]) (fun k l j hj => by
    have h2 : (j : Int) < (a.length : Int) := by omega
    simp only [Z30, Z4j, h2, decide_true, cond_true, Y0 hj, grd_true, Y2 hj, Y1 (j := j) (by omega)]) (by omega) (by omega) (by omega)]
  unfold s_RelationS sumL sub1
  congr 1
  split <;> split <;> omega
 ·rw [decide_eq_true (by omega), cond_true]
  unfold s_RelationS sumL sub1
  rw [if_neg (by omega)]
def me_RelationS (N : Nat) (x : T_Relation) (k : Int) : T_Relation := (mkTx N (k), (k + 1), (k + 1 + 1))
def ce_RelationS (x : T_Relation) : Nat := 1 + 1 + 1
def mk_RelationS (N : Nat) (a : T_RelationS) (k : Int) : T_RelationS := mkL ce_RelationS (me_RelationS N) a k
def c_RelationS (a : T_RelationS) : Nat := costL ce_RelationS a
theorem Y29 (a : T_RelationS) : c_RelationS a <= 8 * s_RelationS a := Ys (c := ce_RelationS) (fun x => by unfold ce_RelationS s_Relation; omega) a
theorem Y2a (hm : MtOk N) {a : T_RelationS} {k : Int} (h : b_RelationS a) (h0 : 0 <= k) (h1 : k + (c_RelationS a : Int) <= 4611686018427387904) (hN : 1048576 < N) : Z2m N a k = some (mk_RelationS N a k, k + (c_RelationS a : Int)) := by
 have hla : a.length <= 1048576 := h.1
 unfold Z2m Z65
 refine Y1v (P := fun y => b_Relation y) (f := fun k a2 k2 i => Z2f N k a2 k2 i) (fun k a2 k2 j hj => by subst hj; simp [Z2f, Z43]) (fun k a2 k2 j h1 hy h0 hc hl => ?_) h.2 h0 h1 (by omega) (by omega)
 have h2 : (j : Int) < (a2.length : Int) := by omega
 simp only [ce_RelationS, Int.natCast_add, Int.cast_ofNat_Int, Int.natCast_one] at hc
 simp (disch := first | assumption | omega) only [Z2f, Z43, h2, decide_true, cond_true, Y0 h1, Yx, grd_true, Yf, letv_eq, Y2 h1, Y1b, Yy, Int.toNat_natCast, Yl, Y1, Option.bind_some, Y4y hm, Option.bind_some]
 simp only [ce_RelationS, me_RelationS, Int.natCast_add, Int.cast_ofNat_Int, Int.natCast_one, Int.add_assoc]
abbrev T_Fact := Int × List Int
def in_Fact (x : T_Fact) : Prop := in_int x.1 /\ in_IntS x.2
def s_Fact (x : T_Fact) : Nat := s_IntS x.2
def b_Fact (x : T_Fact) : Prop := b_IntS x.2
theorem Y3l {x : T_Fact} (h : s_Fact x <= 1048576) : b_Fact x := Y22 (by unfold s_Fact at h; omega)
theorem Y4b {x : T_Fact} (h : b_Fact x) (hN : 1048576 < N) : Z5m N x = some x := by
 simp [Z5m, Y48 h hN]
theorem Y4c {x y : T_Fact} (h : b_Fact x) (hN : 1048576 < N) : Z5q N x y = some (decide (x = y)) := by
 simp only [Z5q, bneI, bneB, beqB, Y1t, Y2c h hN, Option.bind_some]
 obtain ⟨x0, x1⟩ := x
 obtain ⟨y0, y1⟩ := y
 simp only [Prod.mk.injEq]
 by_cases e0 : x0 = y0 <;>
 by_cases e1 : x1 = y1 <;> simp [e0, e1]
theorem Y4d {x : T_Fact} {l : Int} (h : in_Fact x) (h0 : 0 <= l) (h1 : l <= 1048576) (hN : 1048576 < N) : Z4z N x l = some (sub1 l (s_Fact x)) := by
 unfold Z4z s_Fact
 rw [Y49 (l := l) h.2 (by omega) (by omega) hN, Option.bind_some]
 unfold sub1
 split
 ·rw [decide_eq_false (by omega)]; rfl
 ·rfl
abbrev T_FactS := List T_Fact
def in_FactS (a : T_FactS) : Prop := a.length <= 9223372036854775807 /\ ∀ y ∈ a, in_Fact y
def s_FactS (a : T_FactS) : Nat := sumL s_Fact a
def b_FactS (a : T_FactS) : Prop := a.length <= 1048576 /\ ∀ y ∈ a, b_Fact y
theorem Y3d {a : T_FactS} (h : s_FactS a <= 1048576) : b_FactS a := ⟨(Y1k h), fun y hy => Y3l (Nat.le_trans (Y1l hy) h)⟩
theorem Y3m {a : T_FactS} (h : b_FactS a) (hN : 1048576 < N) : Z53 N a = some a := by
 have hl : a.length <= 1048576 := h.1
 unfold Z53 Z6s
 rw [Yq (by omega), grd_true]
 refine fill (b := a) (fun k out i => Z4m N k a out i) (fun k out => by simp [Z4m, Z5s]) (fun k out j h1 h3 => ?_) (by omega) (by simp)
 have h2 : j < out.length := by omega
 have hj : (j : Int) < (a.length : Int) := by omega
 simp [Z4m, Z5s, hj, Y0 h1, Y0 h2, Y2 h1, Y4b (h.2 _ (List.getElem_mem h1)) hN, Y1 (j := j) (by omega)]
theorem Y3n {a b : T_FactS} (h : b_FactS a) (hN : 1048576 < N) : Z57 N a b = some (decide (a = b)) := by
 have hla : a.length <= 1048576 := h.1
 unfold Z57 Z6v
 by_cases hl : a.length = b.length
 ·have h0 : ((a.length : Int) != (b.length : Int)) = false := by simp [hl]
  rw [h0, cond_false, decide_eq_decide.2 (Yb hl)]
  refine Yr (n := a.length) (fun j => decide (a[j]? = b[j]?)) (fun k i => Z4q N k a b i) (fun k => by simp [Z4q, Z5u]) (fun k j hj => ?_) (by omega)
  have h1 : (j : Int) < (a.length : Int) := by omega
  have h2 : j < b.length := by omega
  simp only [Z4q, Z5u, h1, decide_true, cond_true, Y0 hj, Y0 h2, grd_true, Y2 hj, Y2 h2, Y4c (h.2 _ (List.getElem_mem hj)) hN, Option.bind_some, Yj, Y1 (j := j) (by omega), List.getElem?_eq_getElem hj, List.getElem?_eq_getElem h2, Option.some.injEq]
 ·have h0 : ((a.length : Int) != (b.length : Int)) = true := by simp; omega
  rw [h0, cond_true]
  have : a ≠ b := fun h => hl (by rw [h])
  simp [this]
theorem Y3o {a : T_FactS} {l : Int} (h : in_FactS a) (h0 : 0 <= l) (h1 : l <= 1048576) (hN : 1048576 < N) : Z52 N a l = some (sub1 l (s_FactS a)) := by
 have hlen := h.1
 unfold Z52 Z6r
 rw [Y5 (by omega) (by omega)]
 by_cases hc : (a.length : Int) <= l
 ·rw [decide_eq_false (by omega), cond_false]
  rw [szL (a := a) (s := s_Fact) (g := fun x l => Z4z N x l) (f := fun k l i => Z4k N k a l i) (fun x hx l h0 h1 => Y4d (h.2 x hx) h0 h1 hN) (fun k l => by simp [Z4k, Z5r]) (fun k l j hj => by
    have h2 : (j : Int) < (a.length : Int) := by omega
    simp only [Z4k, Z5r, h2, decide_true, cond_true, Y0 hj, grd_true, Y2 hj, Y1 (j := j) (by omega)]) (by omega) (by omega) (by omega)]
  unfold s_FactS sumL sub1
  congr 1
  split <;> split <;> omega
 ·rw [decide_eq_true (by omega), cond_true]
  unfold s_FactS sumL sub1
  rw [if_neg (by omega)]
def me_FactS (N : Nat) (x : T_Fact) (k : Int) : T_Fact := ((k), mk_IntS N x.2 (k + 1))
def ce_FactS (x : T_Fact) : Nat := 1 + c_IntS x.2
def mk_FactS (N : Nat) (a : T_FactS) (k : Int) : T_FactS := mkL ce_FactS (me_FactS N) a k
def c_FactS (a : T_FactS) : Nat := costL ce_FactS a
theorem Y3p (a : T_FactS) : c_FactS a <= 8 * s_FactS a := Ys (c := ce_FactS) (fun x => by have h0 := Y2d x.2; unfold ce_FactS s_Fact; omega) a
theorem Y3q {a : T_FactS} {k : Int} (h : b_FactS a) (h0 : 0 <= k) (h1 : k + (c_FactS a : Int) <= 4611686018427387904) (hN : 1048576 < N) : Z48 N a k = some (mk_FactS N a k, k + (c_FactS a : Int)) := by
 have hla : a.length <= 1048576 := h.1
 unfold Z48 Z6g
 refine Y1v (P := fun y => b_Fact y) (f := fun k a2 k2 i => Z3u N k a2 k2 i) (fun k a2 k2 j hj => by subst hj; simp [Z3u, Z58]) (fun k a2 k2 j h1 hy h0 hc hl => ?_) h.2 h0 h1 (by omega) (by omega)
 have h2 : (j : Int) < (a2.length : Int) := by omega
 have hy0 : b_IntS a2[j].2 := hy
 simp only [ce_FactS, Int.natCast_add, Int.cast_ofNat_Int, Int.natCast_one] at hc
 simp (disch := first | assumption | omega) only [Z3u, Z58, h2, decide_true, cond_true, Y0 h1, Yx, grd_true, Yf, letv_eq, Y2 h1, Y1b, Yy, Int.toNat_natCast, Yl, Y1, Option.bind_some, Y2e]
 simp only [ce_FactS, me_FactS, Int.natCast_add, Int.cast_ofNat_Int, Int.natCast_one, Int.add_assoc]
abbrev T_Database := (List (ByteArray × Int × Int)) × List (Int × List Int)
def in_Database (x : T_Database) : Prop := in_RelationS x.1 /\ in_FactS x.2
def s_Database (x : T_Database) : Nat := s_RelationS x.1 + s_FactS x.2
def b_Database (x : T_Database) : Prop := b_RelationS x.1 /\ b_FactS x.2
theorem Y2b {x : T_Database} (h : s_Database x <= 1048576) : b_Database x := ⟨Y1y (by unfold s_Database at h; omega), Y3d (by unfold s_Database at h; omega)⟩
theorem Y2i {x : T_Database} (h : b_Database x) (hN : 1048576 < N) : Z1u N x = some x := by
 simp [Z1u, Y26 h.1 hN, Y3m h.2 hN]
theorem Y2j {x y : T_Database} (h : b_Database x) (hN : 1048576 < N) : Z3s N x y = some (decide (x = y)) := by
 simp only [Z3s, bneI, bneB, beqB, Y1t, Y27 h.1 hN, Y3n h.2 hN, Option.bind_some]
 obtain ⟨x0, x1⟩ := x
 obtain ⟨y0, y1⟩ := y
 simp only [Prod.mk.injEq]
 by_cases e0 : x0 = y0 <;>
 by_cases e1 : x1 = y1 <;> simp [e0, e1]
theorem Y2k {x : T_Database} {l : Int} (h : in_Database x) (h0 : 0 <= l) (h1 : l <= 1048576) (hN : 1048576 < N) : Z3l N x l = some (sub1 l (s_Database x)) := by
 unfold Z3l s_Database
 rw [Y28 (l := l) h.1 (by omega) (by omega) hN, Option.bind_some]
 by_cases c0 : (s_RelationS x.1 : Int) <= l
 case neg => rw [Yc c0]; rw [Yc (by omega)]; rfl
 rw [Yg c0, decide_eq_false (show ¬ l - (s_RelationS x.1 : Int) < 0 by omega), cond_false]
 rw [Y3o (l := (l - (s_RelationS x.1 : Int))) h.2 (by omega) (by omega) hN, Option.bind_some]
 by_cases c1 : (s_FactS x.2 : Int) <= (l - (s_RelationS x.1 : Int))
 case neg => rw [Yc c1]; rw [Yc (by omega)]; rfl
 rw [Yg c1, decide_eq_false (show ¬ (l - (s_RelationS x.1 : Int)) - (s_FactS x.2 : Int) < 0 by omega), cond_false]
 rw [Yg (by omega)]; congr 1; omega
def mk_Database (N : Nat) (x : T_Database) (k : Int) : T_Database := (mk_RelationS N x.1 (k), mk_FactS N x.2 (k + (c_RelationS x.1 : Int)))
def c_Database (x : T_Database) : Nat := c_RelationS x.1 + c_FactS x.2
theorem Y2l (x : T_Database) : c_Database x <= 8 * s_Database x := by have h0 := Y29 x.1; have h1 := Y3p x.2; unfold c_Database s_Database; omega
theorem Y2m (hm : MtOk N) {x : T_Database} {k : Int} (h : b_Database x) (h0 : 0 <= k) (h1 : k + (c_Database x : Int) <= 4611686018427387904) (hN : 1048576 < N) : Z25 N x k = some (mk_Database N x k, k + (c_Database x : Int)) := by
 have hb0 : b_RelationS x.1 := h.1
 have hb1 : b_FactS x.2 := h.2
 simp only [c_Database, Int.natCast_add] at h1
 simp (disch := first | assumption | omega) only [Z25, Option.bind_some, Y2a hm, Y3q]
 simp only [mk_Database, c_Database, Int.natCast_add, Int.add_assoc]
abbrev T_DenialConstraint := Int × Int × Int × Int × Int × Int × Int
noncomputable instance dec_DenialConstraint : DecidableEq T_DenialConstraint := fun _ _ => Classical.propDecidable _
def in_DenialConstraint (x : T_DenialConstraint) : Prop := in_int x.1 /\ in_int x.2.1 /\ in_int x.2.2.1 /\ in_int x.2.2.2.1 /\ in_int x.2.2.2.2.1 /\ in_int x.2.2.2.2.2.1 /\ in_int x.2.2.2.2.2.2
theorem Y14 (x : T_DenialConstraint) (hN : 1048576 < N) : Z1v N x = some x := rfl
theorem Y15 {x y : T_DenialConstraint} (hN : 1048576 < N) : Z1b N x y = some (decide (x = y)) := by
 simp only [Z1b, bneI, bneB, beqB, Y1t, Option.bind_some]
 obtain ⟨x0, x1, x2, x3, x4, x5, x6⟩ := x
 obtain ⟨y0, y1, y2, y3, y4, y5, y6⟩ := y
 simp only [Prod.mk.injEq]
 by_cases e0 : x0 = y0 <;>
 by_cases e1 : x1 = y1 <;>
 by_cases e2 : x2 = y2 <;>
 by_cases e3 : x3 = y3 <;>
 by_cases e4 : x4 = y4 <;>
 by_cases e5 : x5 = y5 <;>
 by_cases e6 : x6 = y6 <;> simp [e0, e1, e2, e3, e4, e5, e6]
abbrev T_DenialConstraintS := List T_DenialConstraint
def in_DenialConstraintS (a : T_DenialConstraintS) : Prop := a.length <= 9223372036854775807 /\ ∀ y ∈ a, in_DenialConstraint y
def s_DenialConstraintS (a : T_DenialConstraintS) : Nat := a.length
def b_DenialConstraintS (a : T_DenialConstraintS) : Prop := a.length <= 1048576
theorem Yu {a : T_DenialConstraintS} (h : s_DenialConstraintS a <= 1048576) : b_DenialConstraintS a := h
theorem Yz {a : T_DenialConstraintS} (h : b_DenialConstraintS a) (hN : 1048576 < N) : Z0a N a = some a := by
 have hl : a.length <= 1048576 := h
 unfold Z0a Z4r
 rw [Yq (by omega), grd_true]
 refine fill (b := a) (fun k out i => Z14 N k a out i) (fun k out => by simp [Z14, Z2g]) (fun k out j h1 h3 => ?_) (by omega) (by simp)
 have h2 : j < out.length := by omega
 have hj : (j : Int) < (a.length : Int) := by omega
 simp [Z14, Z2g, hj, Y0 h1, Y0 h2, Y2 h1, Y14 _ hN, Y1 (j := j) (by omega)]
theorem Y10 {a b : T_DenialConstraintS} (h : b_DenialConstraintS a) (hN : 1048576 < N) : Z13 N a b = some (decide (a = b)) := by
 have hla : a.length <= 1048576 := h
 unfold Z13 Z4t
 by_cases hl : a.length = b.length
 ·have h0 : ((a.length : Int) != (b.length : Int)) = false := by simp [hl]
  rw [h0, cond_false, decide_eq_decide.2 (Yb hl)]
  refine Yr (n := a.length) (fun j => decide (a[j]? = b[j]?)) (fun k i => Z18 N k a b i) (fun k => by simp [Z18, Z2h]) (fun k j hj => ?_) (by omega)
  have h1 : (j : Int) < (a.length : Int) := by omega
  have h2 : j < b.length := by omega
  simp only [Z18, Z2h, h1, decide_true, cond_true, Y0 hj, Y0 h2, grd_true, Y2 hj, Y2 h2, Y15  hN, Option.bind_some, Yj, Y1 (j := j) (by omega), List.getElem?_eq_getElem hj, List.getElem?_eq_getElem h2, Option.some.injEq]
 ·have h0 : ((a.length : Int) != (b.length : Int)) = true := by simp; omega
  rw [h0, cond_true]
  have : a ≠ b := fun h => hl (by rw [h])
  simp [this]
theorem Y11 {a : T_DenialConstraintS} {l : Int} (h : in_DenialConstraintS a) (h0 : 0 <= l) (h1 : l <= 1048576) (hN : 1048576 < N) : Z12 N a l = some (sub1 l (s_DenialConstraintS a)) := by
 have := h.1
 unfold Z12 s_DenialConstraintS sub1
 rw [Y5 (by omega) (by omega)]
 by_cases h : (a.length : Int) <= l
 ·rw [if_pos h, decide_eq_false (by omega)]; rfl
 ·rw [if_neg h, decide_eq_true (by omega)]; rfl
def me_DenialConstraintS (N : Nat) (x : T_DenialConstraint) (k : Int) : T_DenialConstraint := ((k), (k + 1), (k + 1 + 1), (k + 1 + 1 + 1), (k + 1 + 1 + 1 + 1), (k + 1 + 1 + 1 + 1 + 1), (k + 1 + 1 + 1 + 1 + 1 + 1))
def ce_DenialConstraintS (x : T_DenialConstraint) : Nat := 1 + 1 + 1 + 1 + 1 + 1 + 1
def mk_DenialConstraintS (N : Nat) (a : T_DenialConstraintS) (k : Int) : T_DenialConstraintS := mkL ce_DenialConstraintS (me_DenialConstraintS N) a k
def c_DenialConstraintS (a : T_DenialConstraintS) : Nat := costL ce_DenialConstraintS a
theorem Y12 (a : T_DenialConstraintS) : c_DenialConstraintS a <= 8 * s_DenialConstraintS a := Y1m (c := ce_DenialConstraintS) (fun x => by unfold ce_DenialConstraintS; omega) a
theorem Y13 {a : T_DenialConstraintS} {k : Int} (h : b_DenialConstraintS a) (h0 : 0 <= k) (h1 : k + (c_DenialConstraintS a : Int) <= 4611686018427387904) (hN : 1048576 < N) : Z0s N a k = some (mk_DenialConstraintS N a k, k + (c_DenialConstraintS a : Int)) := by
 have hla : a.length <= 1048576 := h
 unfold Z0s Z49
 refine Y1v (P := fun y => True) (f := fun k a2 k2 i => Z0w N k a2 k2 i) (fun k a2 k2 j hj => by subst hj; simp [Z0w, Z24]) (fun k a2 k2 j h1 hy h0 hc hl => ?_) (fun _ _ => trivial) h0 h1 (by omega) (by omega)
 have h2 : (j : Int) < (a2.length : Int) := by omega
 simp only [ce_DenialConstraintS, Int.natCast_add, Int.cast_ofNat_Int, Int.natCast_one] at hc
 simp (disch := first | assumption | omega) only [Z0w, Z24, h2, decide_true, cond_true, Y0 h1, Yx, grd_true, Yf, letv_eq, Y2 h1, Y1b, Yy, Int.toNat_natCast, Yl, Y1, Option.bind_some, Option.bind_some]
 simp only [ce_DenialConstraintS, me_DenialConstraintS, Int.natCast_add, Int.cast_ofNat_Int, Int.natCast_one, Int.add_assoc]
theorem Y2n {α : Type} {s x : List α} {b : Nat} (h : (s.length + x.length) * b <= 140737488355328) : appOk s x b = true := decide_eq_true h
theorem Yv {α β : Type} {piece : α -> List β} {n : Nat} : ∀ {a : List α}, (∀ x ∈ a, (piece x).length <= n) -> (a.flatMap piece).length <= a.length * n
 | [], _ => by simp
 | x :: a, h => by
  have h1 := h x (by simp)
  have h2 := Yv (a := a) fun y hy => h y (by simp [hy])
  rw [List.flatMap_cons, List.length_append, List.length_cons, Nat.add_mul]; omega
abbrev Rel := ByteArray × Int × Int
abbrev Fact := Int × List Int
abbrev Db := List Rel × List Fact
structure SmallDb (d : Db) : Prop where
 rels : d.1.length <= 1048576
 facts : d.2.length <= 1048576
 vals : ∀ f ∈ d.2, f.2.length <= 1048576
theorem Y30 {α : Type} [DecidableEq α] {a b : List α} (h : a.length = b.length) : (a = b) ↔ ∀ j, j < a.length -> (decide (a[j]? = b[j]?)) = true := by
 constructor
 ·rintro rfl j _; simp
 ·intro h2
  apply List.ext_getElem? 
  intro j
  by_cases hj : j < a.length
  ·simpa using h2 j hj
  ·rw [List.getElem?_eq_none (by omega), List.getElem?_eq_none (by omega)]
theorem l1In (N : Nat) (x a b : Int) : Z0c N x a b = some (decide (a <= x /\ x <= b)) := by
 unfold Z0c
 by_cases h : a <= x <;> simp [h]
theorem Ym (N : Nat) (x a b : Int) : Z5 N x a b = some (decide (a <= x /\ x <= b)) := by
 unfold Z5
 by_cases h : a <= x <;> simp [h]
def validRel (r : Rel) : Bool := (Z4 0 r).getD false
theorem Y1z (N : Nat) (r : Rel) : Z4 N r = some (validRel r) := by
 have key : ∃ b, Z4 0 r = some b := by
  unfold Z4
  by_cases h : r.1.size = 1
  ·have hb : ∃ b, byteAt r.1 0 = some b := by
    unfold byteAt
    have : (0 : Int).toNat < r.1.size := by omega
    exact ⟨r.1[(0 : Int).toNat], by rw [if_pos (by omega), getElem?_pos]⟩
   obtain ⟨b, hb⟩ := hb
   rw [hb]
   simp only [Option.bind_some, l1In]
   cases ((r.1.size : Int) == 1) with
   | false => exact ⟨_, rfl⟩
   | true =>
    cases decide ((b.toNat : Int) >= 97) with
    | false => exact ⟨_, rfl⟩
    | true =>
     cases decide ((b.toNat : Int) <= 122) with
     | false => exact ⟨_, rfl⟩
     | true =>
      cases decide (1 <= r.2.1 /\ r.2.1 <= 3) with
      | false => exact ⟨_, rfl⟩
      | true => exact ⟨_, rfl⟩
  ·have h0 : ((r.1.size : Int) == 1) = false := by rw [beqI]; simp; omega
   rw [h0]; exact ⟨false, rfl⟩
 obtain ⟨b, hb⟩ := key
 have e : Z4 N r = Z4 0 r := by
  unfold Z4; simp only [l1In]
 rw [e, validRel, hb]; rfl
theorem Y4q (N : Nat) (r : Rel) : Z1y N r = some (validRel r) := by
 rw [<- Y1z N r]
 unfold Z1y Z4
 simp only [l1In, Ym]
def validRels (l : List Rel) : Bool := decide ((∀ j, j < l.length -> (validRel (l.getD j (⟨#[]⟩, 0, 0)) && (decide (j = 0) || slt (l.getD (j - 1) (⟨#[]⟩, 0, 0)).1 (l.getD j (⟨#[]⟩, 0, 0)).1)) = true) /\ l.length <= 4)
theorem Y3 {α : Type} {d : α} {j : Nat} {xs : List α} (h : j < xs.length) : xs.getD j d = xs[j] := by simp [h]
theorem Y1n {l : List Rel} (hl : l.length <= 1048576) (hN : 1048576 < N) : Z0g N l = some (validRels l) := by
 unfold Z0g Z3n
 rw [Y8 (n := l.length) (fun j => validRel (l.getD j (⟨#[]⟩, 0, 0)) && (decide (j = 0) || slt (l.getD (j - 1) (⟨#[]⟩, 0, 0)).1 (l.getD j (⟨#[]⟩, 0, 0)).1)) (some false) (some (decide (l.length <= 4))) (fun k i => Z0e N k l i)
  (fun k => by simp [Z0e, Z15]; omega) (fun k j hj => ?_) (by omega)]
 ·unfold validRels
  by_cases h : ∀ j, j < l.length -> (validRel (l.getD j (⟨#[]⟩, 0, 0)) && (decide (j = 0) || slt (l.getD (j - 1) (⟨#[]⟩, 0, 0)).1 (l.getD j (⟨#[]⟩, 0, 0)).1)) = true
  ·rw [if_pos h]; congr 1; exact decide_eq_decide.2 ⟨fun h2 => ⟨h, h2⟩, fun h2 => h2.2⟩
  ·rw [if_neg h]; congr 1; symm; exact decide_eq_false fun h2 => h h2.1
 ·have h1 : (j : Int) < (l.length : Int) := by omega
  simp only [Z0e, Z15, h1, decide_true, cond_true, Y0 hj, grd_true, Y2 hj, Y1z, Option.bind_some, Y3 hj, Y1 (j := j) (by omega)]
  cases validRel l[j] with
  | false => rfl
  | true =>
   simp only [Bool.not_true, cond_false, Bool.true_and]
   by_cases h0 : j = 0
   ·subst h0; simp
   ·have h3 : (j : Int) > 0 := by omega
    have h4 : j - 1 < l.length := by omega
    simp only [h3, decide_true, cond_true, Y7 (show 0 < j by omega) (by omega), Y0 h4, grd_true, Y2 h4, h0, decide_false, Bool.false_or, Y3 h4]
    cases slt l[j - 1].1 l[j].1 <;> rfl
theorem Y4e {l : List Rel} (hl : l.length <= 1048576) (hN : 1048576 < N) : Z1l N l = some (validRels l) := by
 rw [<- Y1n hl hN]
 unfold Z1l Z55 Z0g Z3n
 rw [Y8 (n := l.length) (fun j => validRel (l.getD j (⟨#[]⟩, 0, 0)) && (decide (j = 0) || slt (l.getD (j - 1) (⟨#[]⟩, 0, 0)).1 (l.getD j (⟨#[]⟩, 0, 0)).1)) (some false) (some (decide (l.length <= 4))) (fun k i => Z0e N k l i)
  (fun k => by simp [Z0e, Z15]; omega) (fun k j hj => ?_) (by omega),
  Y8 (n := l.length) (fun j => validRel (l.getD j (⟨#[]⟩, 0, 0)) && (decide (j = 0) || slt (l.getD (j - 1) (⟨#[]⟩, 0, 0)).1 (l.getD j (⟨#[]⟩, 0, 0)).1)) (some false) (some (decide (l.length <= 4))) (fun k i => Z1n N k l l (l.length : Int) i)
  (fun k => by simp [Z1n, Z2z]; omega) (fun k j hj => ?_) (by omega)]
 ·have h1 : (j : Int) < (l.length : Int) := by omega
  simp only [Z1n, Z2z, h1, decide_true, cond_true, Y0 hj, grd_true, Y2 hj, Y4q, Option.bind_some, Y3 hj, Y1 (j := j) (by omega)]
  cases validRel l[j] with
  | false => rfl
  | true =>
   simp only [Bool.not_true, cond_false, Bool.true_and]
   by_cases h0 : j = 0
   ·subst h0; simp
   ·have h3 : (j : Int) > 0 := by omega
    have h4 : j - 1 < l.length := by omega
    simp only [h3, decide_true, cond_true, Y7 (show 0 < j by omega) (by omega), Y0 h4, grd_true, Y2 h4, h0, decide_false, Bool.false_or, Y3 h4]
    cases slt l[j - 1].1 l[j].1 <;> rfl
 ·have h1 : (j : Int) < (l.length : Int) := by omega
  simp only [Z0e, Z15, h1, decide_true, cond_true, Y0 hj, grd_true, Y2 hj, Y1z, Option.bind_some, Y3 hj, Y1 (j := j) (by omega)]
  cases validRel l[j] with
  | false => rfl
  | true =>
   simp only [Bool.not_true, cond_false, Bool.true_and]
   by_cases h0 : j = 0
   ·subst h0; simp
   ·have h3 : (j : Int) > 0 := by omega
    have h4 : j - 1 < l.length := by omega
    simp only [h3, decide_true, cond_true, Y7 (show 0 < j by omega) (by omega), Y0 h4, grd_true, Y2 h4, h0, decide_false, Bool.false_or, Y3 h4]
    cases slt l[j - 1].1 l[j].1 <;> rfl
def validVals (xs : List Int) : Bool := xs.all fun x => decide (0 <= x /\ x <= 9)
theorem Y34 {α : Type} {d : α} {xs : List α} {p : α -> Bool} : (∀ j, j < xs.length -> p (xs.getD j d) = true) ↔ xs.all p = true := by
 rw [List.all_eq_true]
 constructor
 ·intro h x hx
  obtain ⟨i, hi, rfl⟩ := List.mem_iff_getElem.1 hx
  have := h i hi
  rwa [Y3 hi] at this
 ·intro h j hj
  rw [Y3 hj]
  exact h _ (List.getElem_mem hj)
def fact1 (l : List Rel) (f : Fact) : Bool := decide (0 <= f.1 /\ f.1 <= (l.length : Int) - 1) && (decide ((f.2.length : Int) = (l.getD f.1.toNat (⟨#[]⟩, 0, 0)).2.1) && validVals f.2)
theorem Y16 {l : List Rel} {f : Fact} (hl : l.length <= 1048576) (hf : f.2.length <= 1048576) (hN : 1048576 < N) : Z0q N l f = some (validRels l && fact1 l f) := by
 obtain ⟨r, v⟩ := f
 unfold Z0q Z6b
 rw [Y1n hl hN, Option.bind_some]
 cases validRels l with
 | false => rfl
 | true =>
  simp only [Bool.not_true, cond_false, l1In, Option.bind_some, Bool.true_and, fact1]
  rw [Y5 (by omega) (by omega)]
  by_cases h : 0 <= r /\ r <= (l.length : Int) - 1
  ·have h2 : r.toNat < l.length := by omega
   simp only [h, and_self, decide_true, Bool.not_true, cond_false, Y9 h.1 (show r < l.length by omega), grd_true, Y3g h.1 (show r < l.length by omega), bneI, Y3 h2, Bool.true_and]
   by_cases h3 : (v.length : Int) = l[r.toNat].2.1
   ·simp only [h3, decide_true, Bool.not_true, cond_false, Bool.true_and]
    rw [Y8 (n := v.length) (fun j => decide (0 <= v.getD j 0 /\ v.getD j 0 <= 9)) (some false) (some true) (fun k i => Z32 N k r v i) (fun k => by simp [Z32, Z4n]) (fun k j hj => ?_) (by simp only at hf; omega)]
    ·unfold validVals
     by_cases h4 : ∀ j, j < v.length -> decide (0 <= v.getD j 0 /\ v.getD j 0 <= 9) = true
     ·rw [if_pos h4, (Y34 (d := (0 : Int)) (p := fun x => decide (0 <= x /\ x <= 9))).1 h4]
     ·rw [if_neg h4]
      congr 1; symm
      rw [Bool.eq_false_iff]
      exact fun h5 => h4 ((Y34 (d := (0 : Int)) (p := fun x => decide (0 <= x /\ x <= 9))).2 h5)
    ·have h1 : (j : Int) < (v.length : Int) := by omega
     simp only at hf
     simp only [Z32, Z4n, h1, decide_true, cond_true, Y0 hj, grd_true, Y2 hj, l1In, Option.bind_some, Y3 hj, Y1 (j := j) (by omega), Yj]
   ·simp only [h3, decide_false, Bool.not_false, cond_true, Bool.false_and]
  ·simp only [h, decide_false, Bool.not_false, cond_true, Bool.false_and]
def cmpInts : List Int -> List Int -> Int
 | [], [] => 0
 | [], _ :: _ => -1
 | _ :: _, [] => 1
 | a :: x, b :: y => if a < b then -1 else if a > b then 1 else cmpInts x y
theorem Y1w : ∀ (a b : List Int), cmpInts a b = 0 ↔ a = b
 | [], [] => by simp [cmpInts]
 | [], _ :: _ => by simp [cmpInts]
 | _ :: _, [] => by simp [cmpInts]
 | a :: x, b :: y => by
  simp only [cmpInts, List.cons.injEq]
  split
  ·rename_i h; constructor
   ·intro h; omega
   ·intro h2; omega
  ·split
   ·rename_i h; constructor
    ·intro h; omega
    ·intro h2; omega
   ·rw [Y1w x y]
    constructor
    ·intro h; exact ⟨by omega, h⟩
    ·intro h; exact h.2
theorem Y2o {a b : List Int} (ha : a.length <= 1048576) (hb : b.length <= 1048576) (hN : 1048576 < N) : Z4c N a b = some (cmpInts a b) := by
 unfold Z4c Z76
 have := loop (fun k (j : Nat) => Z44 N k a b (j : Int)) (fun j => j <= a.length /\ j <= b.length /\ cmpInts (a.drop j) (b.drop j) = cmpInts a b) (fun j => a.length - j) (fun o => o = some (cmpInts a b)) (fun k j hs => by
  obtain ⟨h1, h2, h3⟩ := hs
  by_cases hj : j < a.length
  ·by_cases hjb : j < b.length
   ·have e1 : (j : Int) < (a.length : Int) := by omega
    have e2 : (j : Int) < (b.length : Int) := by omega
    simp only [Z44, Z54, e1, e2, decide_true, cond_true, Y0 hj, Y0 hjb, grd_true, Y2 hj, Y2 hjb, Y1 (j := j) (by omega)]
    rw [List.drop_eq_getElem_cons hj, List.drop_eq_getElem_cons hjb] at h3
    simp only [cmpInts] at h3
    by_cases hlt : a[j] < b[j]
    ·left; simp only [hlt, if_true, decide_true, cond_true] at h3 ⊢; rw [h3]
    ·by_cases hgt : a[j] > b[j]
     ·left; simp only [hlt, hgt, if_true, if_false, decide_true, decide_false, cond_true, cond_false] at h3 ⊢; rw [h3]
     ·right
      simp only [hlt, hgt, if_false, decide_false, cond_false] at h3 ⊢
      exact ⟨j + 1, ⟨by omega, by omega, h3⟩, by omega, rfl⟩
   ·left
    have e1 : (j : Int) < (a.length : Int) := by omega
    have e2 : ¬ (j : Int) < (b.length : Int) := by omega
    have e3 : ¬ (a.length : Int) < (b.length : Int) := by omega
    have e4 : (a.length : Int) > (b.length : Int) := by omega
    simp only [Z44, Z54, e1, e2, e3, e4, decide_true, decide_false, cond_true, cond_false]
    rw [List.drop_eq_getElem_cons hj, List.drop_of_length_le (l := b) (by omega)] at h3
    rw [<- h3]; rfl
  ·left
   have hja : j = a.length := by omega
   have e1 : ¬ (j : Int) < (a.length : Int) := by omega
   simp only [Z44, Z54, e1, decide_false, cond_false]
   rw [List.drop_of_length_le (l := a) (by omega)] at h3
   by_cases hlt : a.length < b.length
   ·have e2 : (a.length : Int) < (b.length : Int) := by omega
    simp only [e2, decide_true, cond_true]
    rw [List.drop_eq_getElem_cons (by omega)] at h3
    rw [<- h3]; rfl
   ·have e2 : ¬ (a.length : Int) < (b.length : Int) := by omega
    have e3 : ¬ (a.length : Int) > (b.length : Int) := by omega
    simp only [e2, e3, decide_false, cond_false]
    rw [List.drop_of_length_le (by omega)] at h3
    rw [<- h3]; rfl) N 0 (by omega) ⟨by omega, by omega, rfl⟩
 exact this
theorem Y4f {a b : List Int} (ha : a.length <= 1048576) (hb : b.length <= 1048576) (hN : 1048576 < N) : Z1a N a b = some (cmpInts a b) := by
 have hc : ∀ x y : Int, Z3o N x y = some (if x < y then -1 else if x > y then 1 else 0) := by
  intro x y
  simp only [Z3o, Z4s, Option.bind_some, bneI, decide_true, Bool.not_true, cond_false]
  by_cases h1 : x < y
  ·simp [h1]
  ·by_cases h2 : x > y <;> simp [h1, h2]
 unfold Z1a Z4w
 have := loop (fun k (j : Nat) => Z0r N k a b a (a.length : Int) (j : Int)) (fun j => j <= a.length /\ j <= b.length /\ cmpInts (a.drop j) (b.drop j) = cmpInts a b) (fun j => a.length - j) (fun o => o = some (cmpInts a b)) (fun k j hs => by
  obtain ⟨h1, h2, h3⟩ := hs
  by_cases hj : j < a.length
  ·have e1 : (j : Int) < (a.length : Int) := by omega
   by_cases hjb : j < b.length
   ·have e2 : ¬ (j : Int) >= (b.length : Int) := by omega
    simp only [Z0r, Z1o, e1, e2, decide_true, decide_false, cond_true, cond_false, Y0 hj, Y0 hjb, grd_true, Y2 hj, Y2 hjb, Y1 (j := j) (by omega), hc, Option.bind_some]
    rw [List.drop_eq_getElem_cons hj, List.drop_eq_getElem_cons hjb] at h3
    simp only [cmpInts] at h3
    by_cases hlt : a[j] < b[j]
    ·left; simp only [hlt, if_true] at h3 ⊢; rw [<- h3]; rfl
    ·by_cases hgt : a[j] > b[j]
     ·left; simp only [hlt, hgt, if_true, if_false] at h3 ⊢; rw [<- h3]; rfl
     ·right
      simp only [hlt, hgt, if_false] at h3 ⊢
      exact ⟨j + 1, ⟨by omega, by omega, h3⟩, by omega, rfl⟩
   ·left
    have e2 : (j : Int) >= (b.length : Int) := by omega
    simp only [Z0r, Z1o, e1, e2, decide_true, cond_true, Y0 hj, grd_true]
    rw [List.drop_eq_getElem_cons hj, List.drop_of_length_le (l := b) (by omega)] at h3
    rw [<- h3]; rfl
  ·left
   have e1 : ¬ (j : Int) < (a.length : Int) := by omega
   simp only [Z0r, Z1o, e1, decide_false, cond_false]
   rw [List.drop_of_length_le (l := a) (by omega)] at h3
   by_cases hlt : a.length < b.length
   ·have e2 : (a.length : Int) < (b.length : Int) := by omega
    simp only [e2, decide_true, cond_true]
    rw [List.drop_eq_getElem_cons (by omega)] at h3
    rw [<- h3]; rfl
   ·have e2 : ¬ (a.length : Int) < (b.length : Int) := by omega
    simp only [e2, decide_false, cond_false]
    rw [List.drop_of_length_le (by omega)] at h3
    rw [<- h3]; rfl) N 0 (by omega) ⟨by omega, by omega, rfl⟩
 exact this
def cmpFacts (a b : Fact) : Int := if a.1 < b.1 then -1 else if a.1 > b.1 then 1 else cmpInts a.2 b.2
theorem Y4r {a b : Fact} (ha : a.2.length <= 1048576) (hb : b.2.length <= 1048576) (hN : 1048576 < N) : Z2w N a b = some (cmpFacts a b) := by
 unfold Z2w cmpFacts
 rw [Y2o ha hb hN]
 by_cases h1 : a.1 < b.1
 ·simp [h1]
 ·by_cases h2 : a.1 > b.1 <;> simp [h1, h2]
theorem Y4s {a b : Fact} (ha : a.2.length <= 1048576) (hb : b.2.length <= 1048576) (hN : 1048576 < N) : Z2x N a b = some (cmpFacts a b) := by
 unfold Z2x cmpFacts Z5w
 rw [Y4f ha hb hN, bneI]
 by_cases h1 : a.1 < b.1
 ·have : ¬ a.1 = b.1 := by omega
  simp [h1, this]
 ·by_cases h2 : a.1 > b.1
  ·have : ¬ a.1 = b.1 := by omega
   simp [h1, h2, this]
  ·have : a.1 = b.1 := by omega
   simp [this]
theorem Y2p {α : Type} (d : α) {xs : List α} {p : α -> Bool} : (∃ j, j < xs.length /\ p (xs.getD j d) = true) ↔ xs.any p = true := by
 rw [List.any_eq_true]
 constructor
 ·rintro ⟨j, hj, h⟩
  rw [Y3 hj] at h
  exact ⟨_, List.getElem_mem hj, h⟩
 ·rintro ⟨x, hx, h⟩
  obtain ⟨i, hi, rfl⟩ := List.mem_iff_getElem.1 hx
  exact ⟨i, hi, by rw [Y3 hi]; exact h⟩
theorem Yw {α : Type} {d : α} {xs : List α} {p : α -> Bool} {g : Option Int} (h : (∃ j, j < xs.length /\ p (xs.getD j d) = true /\ (∀ i, i < j -> p (xs.getD i d) = false) /\ g = some (j : Int)) \/ ((∀ i, i < xs.length -> p (xs.getD i d) = false) /\ g = some (-1))) : (g.bind fun r => some (decide (r >= 0))) = some (xs.any p) := by
 rcases h with ⟨j, h1, h2, _, rfl⟩ | ⟨h1, rfl⟩
 ·rw [(Y2p d).1 ⟨j, h1, h2⟩]
  simp
 ·have : xs.any p = false := by
   rw [Bool.eq_false_iff]
   intro h
   obtain ⟨j, hj, h2⟩ := (Y2p d).2 h
   rw [h1 j hj] at h2; simp at h2
  rw [this]; rfl
theorem Y3r {v : List Int} (hv : v.length <= 1048576) (hN : 1048576 < N) : Z46 N v = some (validVals v) := by
 unfold Z46 Z7 Z9 Z1z
 rw [Yw (d := (0 : Int)) (xs := v) (p := fun x => !decide (0 <= x /\ x <= 9)) (first (n := v.length) (fun j => !decide (0 <= v.getD j 0 /\ v.getD j 0 <= 9)) (fun k i => Z6 N k v (v.length : Int) i) (fun k => by simp [Z6, Z0n]) (fun k j hj => ?_) (by omega))]
 ·simp only [Option.bind_some, validVals]
  rw [show (v.any fun x => !decide (0 <= x /\ x <= 9)) = !(v.all fun x => decide (0 <= x /\ x <= 9)) from (List.not_all_eq_any_not (l := v) (p := fun x => decide (0 <= x /\ x <= 9))).symm, Bool.not_not]
 ·have h1 : (j : Int) < (v.length : Int) := by omega
  simp only [Z6, Z0n, h1, decide_true, cond_true, Y0 hj, grd_true, Y2 hj, Z3t, Ym, Option.bind_some, Y3 hj, Y1 (j := j) (by omega)]
  cases decide (0 <= v[j] /\ v[j] <= 9) <;> rfl
theorem Y3s {l : List Rel} {f : Fact} (hl : l.length <= 1048576) (hf : f.2.length <= 1048576) (hN : 1048576 < N) : Z5o N l f = some (fact1 l f) := by
 obtain ⟨r, v⟩ := f
 simp only [Z5o, Ym, Option.bind_some, fact1]
 rw [Y5 (by omega) (by omega)]
 by_cases h : 0 <= r /\ r <= (l.length : Int) - 1
 ·have h2 : r.toNat < l.length := by omega
  simp only [h, and_self, decide_true, cond_true, Y9 h.1 (show r < l.length by omega), grd_true, Y3g h.1 (show r < l.length by omega), beqI, Y3 h2, Bool.true_and]
  simp only at hf
  rw [Y3r hf hN]
  cases decide ((v.length : Int) = l[r.toNat].2.1) <;> rfl
 ·simp only [h, decide_false, cond_false, Bool.false_and]
def factAt (d : Db) (j : Nat) : Fact := d.2.getD j (0, [])
def factsOk (d : Db) : Prop := ∀ j, j < d.2.length -> (fact1 d.1 (factAt d j) && (decide (j = 0) || decide (cmpFacts (factAt d (j - 1)) (factAt d j) < 0))) = true
instance (d : Db) : Decidable (factsOk d) := by unfold factsOk; infer_instance
def validDb (d : Db) : Bool := validRels d.1 && (decide (d.2.length <= 14) && decide (factsOk d))
theorem Y1c {d : Db} (h : SmallDb d) (hN : 1048576 < N) : Z8 N d = some (validDb d) := by
 have hv : ∀ j, j < d.2.length -> (factAt d j).2.length <= 1048576 := fun j hj => by unfold factAt; rw [Y3 hj]; exact h.vals _ (List.getElem_mem hj)
 unfold Z8 Z5n
 rw [Y8 (n := d.2.length) (fun j => (validRels d.1 && fact1 d.1 (factAt d j)) && (decide (j = 0) || decide (cmpFacts (factAt d (j - 1)) (factAt d j) < 0))) (some false) (some (validRels d.1 && decide (d.2.length <= 14))) (fun k i => Z1w N k d.1 d.2 i)
  (fun k => by
   simp only [Z1w, Z3j, Int.lt_irrefl, decide_false, cond_false, Y1n h.rels hN, Option.bind_some]
   cases validRels d.1 with
   | false => rfl
   | true => simp only [cond_true, Bool.true_and, Option.some.injEq]; exact decide_eq_decide.2 (by omega)) (fun k j hj => ?_) (by have := h.facts; omega)]
 ·unfold validDb factsOk
  cases hr : validRels d.1 with
  | true =>
   simp only [Bool.true_and]
   by_cases h2 : ∀ j, j < d.2.length -> (fact1 d.1 (factAt d j) && (decide (j = 0) || decide (cmpFacts (factAt d (j - 1)) (factAt d j) < 0))) = true
   ·rw [if_pos h2, decide_eq_true h2, Bool.and_true]
   ·rw [if_neg h2, decide_eq_false h2, Bool.and_false]
  | false => simp
 ·have h1 : (j : Int) < (d.2.length : Int) := by omega
  have hf := h.facts
  have ha : at_ (0, []) d.2 (j : Int) = factAt d j := by unfold factAt; rw [Y2 hj, Y3 hj]
  simp only [Z1w, Z3j, h1, decide_true, cond_true, Y0 hj, grd_true, ha, Y16 h.rels (hv j hj) hN, Option.bind_some, Y1 (j := j) (by omega)]
  cases validRels d.1 && fact1 d.1 (factAt d j) with
  | false => rfl
  | true =>
   simp only [Bool.not_true, cond_false, Bool.true_and]
   by_cases h0 : j = 0
   ·subst h0; simp
   ·have h3 : (j : Int) > 0 := by omega
    have h4 : j - 1 < d.2.length := by omega
    have hb : at_ (0, []) d.2 ((j - 1 : Nat) : Int) = factAt d (j - 1) := by unfold factAt; rw [Y2 h4, Y3 h4]
    simp only [h3, decide_true, cond_true, Y7 (show 0 < j by omega) (by omega), Y0 h4, grd_true, hb, Y4r (hv _ h4) (hv _ hj) hN, Option.bind_some, h0, decide_false, Bool.false_or]
    by_cases h5 : cmpFacts (factAt d (j - 1)) (factAt d j) < 0
    ·have : ¬ cmpFacts (factAt d (j - 1)) (factAt d j) >= 0 := by omega
     simp [h5, this]
    ·have : cmpFacts (factAt d (j - 1)) (factAt d j) >= 0 := by omega
     simp [h5, this]
theorem Y2q {d : Db} (h : SmallDb d) (hN : 1048576 < N) : Z0h N d = some (validDb d) := by
 have hv : ∀ j, j < d.2.length -> (factAt d j).2.length <= 1048576 := fun j hj => by unfold factAt; rw [Y3 hj]; exact h.vals _ (List.getElem_mem hj)
 unfold Z0h Z5p
 rw [Y4e h.rels hN, Option.bind_some]
 unfold validDb
 cases validRels d.1 with
 | false => rfl
 | true =>
  simp only [Bool.not_true, cond_false, Bool.true_and]
  by_cases h14 : d.2.length <= 14
  ·have : ¬ (d.2.length : Int) > 14 := by omega
   simp only [this, decide_false, cond_false, h14, decide_true, Bool.true_and]
   rw [Y8 (n := d.2.length) (fun j => fact1 d.1 (factAt d j) && (decide (j = 0) || decide (cmpFacts (factAt d (j - 1)) (factAt d j) < 0))) (some false) (some true) (fun k i => Z1x N k d.1 d.2 d.2 (d.2.length : Int) i)
    (fun k => by simp [Z1x, Z3k]) (fun k j hj => ?_) (by omega)]
   ·unfold factsOk
    by_cases h2 : ∀ j, j < d.2.length -> (fact1 d.1 (factAt d j) && (decide (j = 0) || decide (cmpFacts (factAt d (j - 1)) (factAt d j) < 0))) = true
    ·rw [if_pos h2, decide_eq_true h2]
    ·rw [if_neg h2, decide_eq_false h2]
   ·have h1 : (j : Int) < (d.2.length : Int) := by omega
    have ha : at_ (0, []) d.2 (j : Int) = factAt d j := by unfold factAt; rw [Y2 hj, Y3 hj]
    simp only [Z1x, Z3k, h1, decide_true, cond_true, Y0 hj, grd_true, ha, Y3s h.rels (hv j hj) hN, Option.bind_some, Y1 (j := j) (by omega)]
    cases fact1 d.1 (factAt d j) with
    | false => rfl
    | true =>
     simp only [Bool.not_true, cond_false, Bool.true_and]
     by_cases h0 : j = 0
     ·subst h0; simp
     ·have h3 : (j : Int) > 0 := by omega
      have h4 : j - 1 < d.2.length := by omega
      have hb : at_ (0, []) d.2 ((j - 1 : Nat) : Int) = factAt d (j - 1) := by unfold factAt; rw [Y2 h4, Y3 h4]
      simp only [h3, decide_true, cond_true, Y7 (show 0 < j by omega) (by omega), Y0 h4, grd_true, hb, Y4s (hv _ h4) (hv _ hj) hN, Option.bind_some, h0, decide_false, Bool.false_or]
      by_cases h5 : cmpFacts (factAt d (j - 1)) (factAt d j) < 0
      ·have : ¬ cmpFacts (factAt d (j - 1)) (factAt d j) >= 0 := by omega
       simp [h5, this]
      ·have : cmpFacts (factAt d (j - 1)) (factAt d j) >= 0 := by omega
       simp [h5, this]
  ·have : (d.2.length : Int) > 14 := by omega
   simp [this, h14]
theorem Y19 : ∀ (a b c : List Int), cmpInts a b < 0 -> cmpInts b c < 0 -> cmpInts a c < 0
 | [], [], c, h, _ => by simp [cmpInts] at h
 | [], _ :: _, [], _, h => by simp [cmpInts] at h
 | [], _ :: _, _ :: _, _, _ => by simp [cmpInts]
 | _ :: _, [], c, h, _ => by simp [cmpInts] at h
 | _ :: _, _ :: _, [], _, h => by simp [cmpInts] at h
 | x :: a, y :: b, z :: c, h1, h2 => by
  simp only [cmpInts] at h1 h2 ⊢
  by_cases hxy : x < y
  ·by_cases hyz : y < z
   ·rw [if_pos (by omega)]; omega
   ·rw [if_neg hyz] at h2
    split at h2
    ·omega
    ·rw [if_pos (by omega)]; omega
  ·rw [if_neg hxy] at h1
   split at h1
   ·omega
   ·have : x = y := by omega
    subst this
    by_cases hyz : x < z
    ·rw [if_pos hyz]; omega
    ·rw [if_neg hyz] at h2 ⊢
     split at h2
     ·omega
     ·rename_i hg
      rw [if_neg hg]
      exact Y19 a b c h1 h2
theorem Y20 {a b c : Fact} (h1 : cmpFacts a b < 0) (h2 : cmpFacts b c < 0) : cmpFacts a c < 0 := by
 unfold cmpFacts at h1 h2 ⊢
 by_cases hab : a.1 < b.1
 ·by_cases hbc : b.1 < c.1
  ·rw [if_pos (by omega)]; omega
  ·rw [if_neg hbc] at h2
   split at h2
   ·omega
   ·rw [if_pos (by omega)]; omega
 ·rw [if_neg hab] at h1
  split at h1
  ·omega
  ·by_cases hbc : b.1 < c.1
   ·rw [if_pos (by omega)]; omega
   ·rw [if_neg hbc] at h2
    split at h2
    ·omega
    ·rw [if_neg (by omega), if_neg (by omega)]
     exact Y19 _ _ _ h1 h2
section
variable (S : Nat -> Nat -> Bool)
def blk (n s : Nat) : List Nat := (List.range n).filter (S s)
def isSt (s : Nat) : Bool := (List.range s).all fun k => !S s k
def sts (n : Nat) : List Nat := (List.range n).filter (isSt S)
def B (n : Nat) : List (List Nat) := (sts S n).map (blk S n)
variable {S}
end
def keyLen (l : List Rel) (f : Fact) : Int := (l.getD f.1.toNat (⟨#[]⟩, 0, 0)).2.2
def keyOf (l : List Rel) (f : Fact) : List Int := f.2.take (keyLen l f).toNat
def sameK (l : List Rel) (a b : Fact) : Bool := decide (a.1 = b.1) && decide (keyOf l a = keyOf l b)
theorem Y2r {r : Rel} (h : validRel r = true) : 0 <= r.2.2 /\ r.2.2 <= r.2.1 := by
 unfold validRel Z4 at h
 by_cases h1 : r.1.size = 1
 ·have hb : ∃ b, byteAt r.1 0 = some b := by
   unfold byteAt
   have : (0 : Int).toNat < r.1.size := by omega
   exact ⟨r.1[(0 : Int).toNat], by rw [if_pos (by omega), getElem?_pos]⟩
  obtain ⟨b, hb⟩ := hb
  rw [hb] at h
  simp only [Option.bind_some, l1In] at h
  by_cases h2 : 0 <= r.2.2 /\ r.2.2 <= r.2.1
  ·exact h2
  ·rw [decide_eq_false h2] at h
   exfalso
   revert h
   cases ((r.1.size : Int) == 1) <;> cases decide ((b.toNat : Int) >= 97) <;> cases decide ((b.toNat : Int) <= 122) <;> cases decide (1 <= r.2.1 /\ r.2.1 <= 3) <;> simp
 ·have h0 : ((r.1.size : Int) == 1) = false := by rw [beqI]; simp; omega
  rw [h0] at h
  simp at h
theorem Yn {l : List Rel} (h : validRels l = true) {j : Nat} (hj : j < l.length) : validRel (l.getD j (⟨#[]⟩, 0, 0)) = true := by
 have := (of_decide_eq_true h).1 j hj
 rw [Bool.and_eq_true] at this
 exact this.1
structure GoodFact (l : List Rel) (f : Fact) : Prop where
 lo : 0 <= f.1
 hi : f.1 < (l.length : Int)
 len : (f.2.length : Int) = (l.getD f.1.toNat (⟨#[]⟩, 0, 0)).2.1
 k0 : 0 <= keyLen l f
 k1 : keyLen l f <= (f.2.length : Int)
theorem Yo {l : List Rel} {f : Fact} (hl : validRels l = true) (hf : fact1 l f = true) : GoodFact l f := by
 unfold fact1 at hf
 rw [Bool.and_eq_true, Bool.and_eq_true, decide_eq_true_eq, decide_eq_true_eq] at hf
 obtain ⟨⟨h1, h2⟩, h3, h4⟩ := hf
 have := Y2r (Yn hl (j := f.1.toNat) (by omega))
 exact ⟨h1, by omega, h3, this.1, by rw [h3]; exact this.2⟩
theorem Y3t {a b : List Int} (ha : a.length <= 1048576) (hN : 1048576 < N) : Z1q N a b = some (decide (a = b)) := by
 unfold Z1q Z5b
 by_cases hl : a.length = b.length
 ·have : ((a.length : Int) != (b.length : Int)) = false := by rw [bneI]; simp; omega
  rw [this, cond_false, Yr (n := a.length) (fun j => decide (a[j]? = b[j]?)) (fun k i => Z1p N k a b (a.length : Int) i) (fun k => by simp [Z1p, Z36]) (fun k j hj => ?_) (by omega)]
  ·congr 1
   exact decide_eq_decide.2 (Y30 hl).symm
  ·have h1 : (j : Int) < (a.length : Int) := by omega
   have hjb : j < b.length := by omega
   simp only [Z1p, Z36, h1, decide_true, cond_true, Y0 hj, Y0 hjb, grd_true, Y2 hj, Y2 hjb, Y1 (j := j) (by omega), bneI, List.getElem?_eq_getElem hj, List.getElem?_eq_getElem hjb, Option.some.injEq]
   by_cases h : a[j] = b[j] <;> simp [h]
 ·have : ((a.length : Int) != (b.length : Int)) = true := by rw [bneI]; simp; omega
  have hne : ¬ a = b := fun h => hl (by rw [h])
  rw [this, cond_true, decide_eq_false hne]
theorem Y17 {lo hi : Int} {n : Nat} (h1 : 0 <= lo) (h2 : lo <= hi) (h3 : hi <= (n : Int)) : subOk lo hi n = true := by
 unfold subOk; rw [decide_eq_true h1, decide_eq_true h2, decide_eq_true h3]; rfl
theorem Y6 {α : Type} {s x : List α} {b : Nat} (hb : b <= 1000) (h : s.length + x.length <= 140737488355) : appOk s x b = true := by
 unfold appOk
 refine decide_eq_true ?_
 calc (s.length + x.length) * b <= 140737488355 * 1000 := Nat.mul_le_mul h hb
  _ <= _ := by omega
theorem Y35 {l : List Rel} {f : Fact} (hl : l.length <= 1048576) (hf : f.2.length <= 1048576) (hN : 1048576 < N) (hv : validRels l = true) (h1 : fact1 l f = true) : Z5h N l f = some (keyOf l f) := by
 have g := Yo hv h1
 have e : (at_ (⟨#[]⟩, 0, 0) l f.1).2.2 = keyLen l f := rfl
 unfold Z5h
 rw [Y16 hl hf hN, hv, h1, Option.bind_some, Y9 g.lo g.hi, grd_true]
 simp only [Bool.and_self, Bool.not_true, cond_false, e]
 rw [Y17 (by omega) g.k0 g.k1, grd_true, Y6 (by omega) (by simp only [List.length_nil, List.length_take]; omega), grd_true]
 rfl
theorem Y4g {l : List Rel} {a b : Fact} (hl : l.length <= 1048576) (ha : a.2.length <= 1048576) (hb : b.2.length <= 1048576) (hN : 1048576 < N) (hv : validRels l = true) (h1 : fact1 l a = true) (h2 : fact1 l b = true) : Z3c N l a b = some (sameK l a b) := by
 unfold Z3c sameK
 rw [Y16 hl ha hN, Y16 hl hb hN, hv, h1, h2]
 simp only [Bool.and_self, Option.bind_some, cond_true, beqI]
 by_cases h : a.1 = b.1
 ·rw [decide_eq_true h, cond_true, Y35 hl ha hN hv h1, Y35 hl hb hN hv h2, Option.bind_some, Option.bind_some,
   Y2o (by unfold keyOf; rw [List.length_take]; omega) (by unfold keyOf; rw [List.length_take]; omega) hN, Option.bind_some, Bool.true_and]
  congr 1
  exact decide_eq_decide.2 (Y1w _ _)
 ·rw [decide_eq_false h]; rfl
theorem Y4h {l : List Rel} {a b : Fact} (ha : a.2.length <= 1048576) (hb : b.2.length <= 1048576) (hN : 1048576 < N) (hv : validRels l = true) (h1 : fact1 l a = true) (h2 : fact1 l b = true) : Z56 N l a b = some (sameK l a b) := by
 have g := Yo hv h1
 have g' := Yo hv h2
 have e : (at_ (⟨#[]⟩, 0, 0) l a.1).2.2 = keyLen l a := rfl
 unfold Z56 sameK
 rw [bneI]
 by_cases h : a.1 = b.1
 ·have hk : keyLen l a = keyLen l b := by unfold keyLen; rw [h]
  rw [decide_eq_true h, Bool.not_true, cond_false, Y9 g.lo g.hi, grd_true, e]
  rw [Y17 (by omega) g.k0 g.k1, grd_true, Y17 (by omega) g.k0 (by have := g'.k1; rw [<- hk] at this; exact this), grd_true, Y3t (by rw [List.length_take]; omega) hN, Option.bind_some, Bool.true_and]
  unfold keyOf
  rw [<- hk]
 ·rw [decide_eq_false h]; rfl
def sameD (d : Db) (i k : Nat) : Bool := sameK d.1 (factAt d i) (factAt d k)
structure ValidDb (d : Db) : Prop where
 rels : validRels d.1 = true
 few : d.2.length <= 14
 fact : ∀ j, j < d.2.length -> fact1 d.1 (factAt d j) = true
 lt : ∀ i k, i < k -> k < d.2.length -> cmpFacts (factAt d i) (factAt d k) < 0
theorem Y4 {d : Db} (h : validDb d = true) : ValidDb d := by
 unfold validDb at h
 rw [Bool.and_eq_true, Bool.and_eq_true, decide_eq_true_eq, decide_eq_true_eq] at h
 obtain ⟨h1, h2, h3⟩ := h
 refine ⟨h1, h2, fun j hj => ?_, ?_⟩
 ·have := h3 j hj
  rw [Bool.and_eq_true] at this
  exact this.1
 ·have step : ∀ j, 0 < j -> j < d.2.length -> cmpFacts (factAt d (j - 1)) (factAt d j) < 0 := by
   intro j h0 hj
   have := h3 j hj
   rw [Bool.and_eq_true, Bool.or_eq_true, decide_eq_true_eq, decide_eq_true_eq] at this
   rcases this.2 with h | h
   ·omega
   ·exact h
  intro i k
  induction k with
  | zero => intro h; omega
  | succ k ih =>
   intro hik hk
   have hs := step (k + 1) (by omega) hk
   rw [Nat.add_sub_cancel] at hs
   by_cases h : i = k
   ·subst h; exact hs
   ·exact Y20 (ih (by omega) (by omega)) hs
def validSet (n : Nat) (l : List Int) : Bool := decide (∀ j, j < l.length -> (decide (0 <= l.getD j 0 /\ l.getD j 0 <= (n : Int) - 1) && (decide (j = 0) || decide (l.getD (j - 1) 0 < l.getD j 0))) = true)
theorem Y4t {n : Nat} {l : List Int} (hn : n <= 1048576) (hl : l.length <= 1048576) (hN : 1048576 < N) : Z3p N l (n : Int) = some (validSet n l) := by
 unfold Z3p Z6e
 rw [Y8 (n := l.length) (fun j => decide (0 <= l.getD j 0 /\ l.getD j 0 <= (n : Int) - 1) && (decide (j = 0) || decide (l.getD (j - 1) 0 < l.getD j 0))) (some false) (some true) (fun k i => Z3h N k l (n : Int) l (l.length : Int) i)
  (fun k => by simp [Z3h, Z4x]) (fun k j hj => ?_) (by omega)]
 ·unfold validSet
  split
  ·rename_i h4; rw [decide_eq_true h4]
  ·rename_i h4; rw [decide_eq_false h4]
 ·have h1 : (j : Int) < (l.length : Int) := by omega
  simp only [Z3h, Z4x, h1, decide_true, cond_true, Y0 hj, grd_true, Y2 hj, Ym, Option.bind_some, Y3 hj, Y1 (j := j) (by omega), Y5 (show -9223372036854775808 <= (n : Int) - 1 by omega) (by omega)]
  cases decide (0 <= l[j] /\ l[j] <= (n : Int) - 1) with
  | false => rfl
  | true =>
   simp only [Bool.not_true, cond_false, Bool.true_and]
   by_cases h0 : j = 0
   ·subst h0; simp
   ·have h3 : (j : Int) > 0 := by omega
    have h4 : j - 1 < l.length := by omega
    simp only [h3, decide_true, cond_true, Y7 (show 0 < j by omega) (by omega), Y0 h4, grd_true, Y2 h4, h0, decide_false, Bool.false_or, Y3 h4]
    by_cases h5 : l[j - 1] < l[j]
    ·have : ¬ l[j - 1] >= l[j] := by omega
     simp [h5, this]
    ·have : l[j - 1] >= l[j] := by omega
     simp [h5, this]
theorem Ye {d : Db} {k : Nat} (hk : k < d.2.length) : at_ (0, []) d.2 (k : Int) = factAt d k := by unfold factAt; rw [Y2 hk, Y3 hk]
def one (p : Int -> Bool) (x : Int) : Int := if p x then 1 else 0
theorem Y1j {r : Rel} (h : validRel r = true) : 1 <= r.2.1 /\ r.2.1 <= 3 := by
 unfold validRel Z4 at h
 by_cases h1 : r.1.size = 1
 ·have hb : ∃ b, byteAt r.1 0 = some b := by
   unfold byteAt
   have : (0 : Int).toNat < r.1.size := by omega
   exact ⟨r.1[(0 : Int).toNat], by rw [if_pos (by omega), getElem?_pos]⟩
  obtain ⟨b, hb⟩ := hb
  rw [hb] at h
  simp only [Option.bind_some, l1In] at h
  by_cases h2 : 1 <= r.2.1 /\ r.2.1 <= 3
  ·exact h2
  ·rw [decide_eq_false h2] at h
   exfalso
   revert h
   cases ((r.1.size : Int) == 1) <;> cases decide ((b.toNat : Int) >= 97) <;> cases decide ((b.toNat : Int) <= 122) <;> simp
 ·have h0 : ((r.1.size : Int) == 1) = false := by rw [beqI]; simp; omega
  rw [h0] at h
  simp at h
theorem Yp {β R : Type} {n m B lo : Nat} (piece : Nat -> List β) {f : Nat -> List β -> Int -> Option R} {g : List β -> Option R} (hp : ∀ j, (piece j).length <= m) (hend : ∀ k out, f (k + 1) out (n : Int) = g out)
  (hstep : ∀ k out j, lo <= j -> j < n -> out.length <= B -> f (k + 1) out (j : Int) = f k (out ++ piece j) ((j + 1 : Nat) : Int)) : ∀ {k j : Nat} {out : List β}, n - j < k -> lo <= j -> j <= n -> out.length + (n - j) * m <= B -> f k out (j : Int) = g (out ++ (List.range' j (n - j)).flatMap piece)
 | 0, j, out, hk, hlo, hj, hB => by omega
 | k + 1, j, out, hk, hlo, hj, hB => by
  by_cases h : j < n
  ·have e : n - j = (n - (j + 1)) + 1 := by omega
   rw [e, Nat.add_mul] at hB
   have := hp j
   rw [hstep k out j hlo h (by omega), Yp piece hp hend hstep (by omega) (by omega) (by omega) (by rw [List.length_append]; omega)]
   rw [e, List.range'_succ, List.flatMap_cons, List.append_assoc]
  ·have : j = n := by omega
   subst this
   rw [hend, Nat.sub_self]; simp
abbrev Con := Int × Int × Int × Int × Int × Int × Int
def arOf (d : Db) (r : Int) : Int := (d.1.getD r.toNat (⟨#[]⟩, 0, 0)).2.1
def inR (x a b : Int) : Bool := decide (a <= x /\ x <= b)
def conOk (d : Db) (x : Con) : Bool := inR x.1 0 ((d.1.length : Int) - 1) && (inR x.2.1 0 ((d.1.length : Int) - 1) && (inR x.2.2.1 0 (arOf d x.1 - 1) && (inR x.2.2.2.2.1 0 (arOf d x.1 - 1) && (inR x.2.2.2.1 0 (arOf d x.2.1 - 1) && (inR x.2.2.2.2.2.1 0 (arOf d x.2.1 - 1) && inR x.2.2.2.2.2.2 1 2)))))
theorem Yd {x a b : Int} (h : inR x a b = true) : a <= x /\ x <= b := by simpa [inR] using h
theorem Y36 {d : Db} {x : Con} (h : SmallDb d) (hvb : validDb d = true) (hN : 1048576 < N) : Z0z N d x = some (conOk d x) := by
 have hr := h.rels
 have hv := Y4 hvb
 unfold Z0z conOk
 rw [Y1c h hN, hvb, Option.bind_some]
 simp only [Bool.not_true, cond_false, l1In, Option.bind_some]
 rw [Y5 (x := (d.1.length : Int) - 1) (by omega) (by omega)]
 rw [show ∀ a b c : Int, decide (a <= b /\ b <= c) = inR b a c from fun _ _ _ => rfl, show ∀ a b c : Int, decide (a <= b /\ b <= c) = inR b a c from fun _ _ _ => rfl]
 cases h1 : inR x.1 0 ((d.1.length : Int) - 1) with
 | false => rfl
 | true =>
  cases h2 : inR x.2.1 0 ((d.1.length : Int) - 1) with
  | false => rfl
  | true =>
   have i1 := Yd h1
   have i2 := Yd h2
   have a1 := Y1j (Yn hv.rels (j := x.1.toNat) (by omega))
   have a2 := Y1j (Yn hv.rels (j := x.2.1.toNat) (by omega))
   simp only [Bool.not_true, cond_false, Y9 i1.1 (show x.1 < (d.1.length : Int) by omega), Y9 i2.1 (show x.2.1 < (d.1.length : Int) by omega), grd_true]
   rw [show (at_ (⟨#[]⟩, (0, 0)) d.1 x.1).2.1 = arOf d x.1 from rfl, show (at_ (⟨#[]⟩, (0, 0)) d.1 x.2.1).2.1 = arOf d x.2.1 from rfl]
   have b1 : 1 <= arOf d x.1 /\ arOf d x.1 <= 3 := a1
   have b2 : 1 <= arOf d x.2.1 /\ arOf d x.2.1 <= 3 := a2
   rw [Y5 (x := arOf d x.1 - 1) (by omega) (by omega), Y5 (x := arOf d x.2.1 - 1) (by omega) (by omega)]
   simp only [inR, Bool.true_and]
   cases decide (0 <= x.2.2.1 /\ x.2.2.1 <= arOf d x.1 - 1) <;> cases decide (0 <= x.2.2.2.2.1 /\ x.2.2.2.2.1 <= arOf d x.1 - 1) <;> cases decide (0 <= x.2.2.2.1 /\ x.2.2.2.1 <= arOf d x.2.1 - 1) <;> cases decide (0 <= x.2.2.2.2.2.1 /\ x.2.2.2.2.2.1 <= arOf d x.2.1 - 1) <;> rfl
theorem Y4u {d : Db} {x : Con} (h : SmallDb d) (hvb : validDb d = true) (hN : 1048576 < N) : Z1m N d x = some (conOk d x) := by
 rw [<- Y36 h hvb hN]
 unfold Z1m Z0z
 rw [Y1c h hN, Y2q h hN]
 simp only [Ym, l1In]
def viol (d : Db) (x : Con) (i k : Nat) : Bool := conOk d x && (decide ((factAt d i).1 = x.1) && (decide ((factAt d k).1 = x.2.1) && (decide (at_ 0 (factAt d i).2 x.2.2.1 = at_ 0 (factAt d k).2 x.2.2.2.1) &&
 (if x.2.2.2.2.2.2 = 1 then decide (at_ 0 (factAt d i).2 x.2.2.2.2.1 = at_ 0 (factAt d k).2 x.2.2.2.2.2.1) else decide (at_ 0 (factAt d i).2 x.2.2.2.2.1 < at_ 0 (factAt d k).2 x.2.2.2.2.2.1)))))
theorem Y37 {d : Db} (hv : ValidDb d) {x : Con} (hc : conOk d x = true) {i k : Nat} (hi : i < d.2.length) (hk : k < d.2.length) (h1 : (factAt d i).1 = x.1) (h2 : (factAt d k).1 = x.2.1) :
  inb x.2.2.1 (factAt d i).2 = true /\ inb x.2.2.2.2.1 (factAt d i).2 = true /\ inb x.2.2.2.1 (factAt d k).2 = true /\ inb x.2.2.2.2.2.1 (factAt d k).2 = true /\ (x.2.2.2.2.2.2 = 1 \/ x.2.2.2.2.2.2 = 2) := by
 unfold conOk at hc
 simp only [Bool.and_eq_true] at hc
 obtain ⟨_, _, c3, c4, c5, c6, c7⟩ := hc
 have i3 := Yd c3
 have i4 := Yd c4
 have i5 := Yd c5
 have i6 := Yd c6
 have i7 := Yd c7
 have l1 := (Yo hv.rels (hv.fact i hi)).len
 have l2 := (Yo hv.rels (hv.fact k hk)).len
 rw [h1] at l1
 rw [h2] at l2
 have l1 : ((factAt d i).2.length : Int) = arOf d x.1 := l1
 have l2 : ((factAt d k).2.length : Int) = arOf d x.2.1 := l2
 exact ⟨Y9 i3.1 (by omega), Y9 i4.1 (by omega), Y9 i5.1 (by omega), Y9 i6.1 (by omega), by omega⟩
theorem Y1o {d : Db} {x : Con} (h : SmallDb d) (hvb : validDb d = true) (hN : 1048576 < N) {i k : Nat} (hi : i < d.2.length) (hk : k < d.2.length) (hne : i ≠ k) : Z0t N d x i k = some (viol d x i k) := by
 have hf := h.facts
 have hv := Y4 hvb
 unfold Z0t viol
 rw [Y36 h hvb hN, Option.bind_some]
 cases hc : conOk d x with
 | false => rfl
 | true =>
  have e1 : (0 : Int) <= (i : Int) /\ (i : Int) <= (d.2.length : Int) - 1 := by omega
  have e2 : (0 : Int) <= (k : Int) /\ (k : Int) <= (d.2.length : Int) - 1 := by omega
  have e3 : ((i : Int) == (k : Int)) = false := by rw [beqI]; exact decide_eq_false (by omega)
  simp only [Bool.not_true, cond_false, l1In, Option.bind_some, Bool.true_and]
  rw [Y5 (x := (d.2.length : Int) - 1) (by omega) (by omega), decide_eq_true e1, decide_eq_true e2, e3]
  simp only [Bool.not_true, cond_false, Y0 hi, Y0 hk, grd_true, Ye hi, Ye hk, bneI]
  by_cases h1 : (factAt d i).1 = x.1
  ·by_cases h2 : (factAt d k).1 = x.2.1
   ·obtain ⟨k1, k2, k3, k4, k5⟩ := Y37 hv hc hi hk h1 h2
    simp only [h1, h2, decide_true, Bool.not_true, cond_false, k1, k2, k3, k4, grd_true, Bool.true_and]
    by_cases h3 : at_ 0 (factAt d i).2 x.2.2.1 = at_ 0 (factAt d k).2 x.2.2.2.1
    ·simp only [h3, decide_true, Bool.not_true, cond_false, Bool.true_and]
     by_cases h4 : x.2.2.2.2.2.2 = 1
     ·simp only [h4, if_true, beqI, decide_true, cond_true]
     ·simp only [h4, if_false, beqI, decide_false, cond_false]
    ·simp only [h3, decide_false, Bool.not_false, cond_true, Bool.false_and]
   ·simp only [h1, h2, decide_true, decide_false, Bool.not_true, Bool.not_false, cond_false, cond_true, Bool.false_and, Bool.true_and]
  ·simp only [h1, decide_false, Bool.not_false, cond_true, Bool.false_and]
theorem Y2s {d : Db} {x : Con} (h : SmallDb d) (hvb : validDb d = true) (hN : 1048576 < N) {i k : Nat} (hi : i < d.2.length) (hk : k < d.2.length) (hne : i ≠ k) : Z0u N d x i k = some (viol d x i k) := by
 have hf := h.facts
 have hv := Y4 hvb
 unfold Z0u viol
 rw [Y4u h hvb hN, Option.bind_some]
 cases hc : conOk d x with
 | false => rfl
 | true =>
  have e1 : (0 : Int) <= (i : Int) /\ (i : Int) <= (d.2.length : Int) - 1 := by omega
  have e2 : (0 : Int) <= (k : Int) /\ (k : Int) <= (d.2.length : Int) - 1 := by omega
  have e3 : ((i : Int) != (k : Int)) = true := by rw [bneI, decide_eq_false (by omega)]; rfl
  simp only [cond_true, Ym, Option.bind_some, Bool.true_and, e3]
  rw [Y5 (x := (d.2.length : Int) - 1) (by omega) (by omega), decide_eq_true e1, decide_eq_true e2]
  simp only [cond_true, Y0 hi, Y0 hk, grd_true, Ye hi, Ye hk]
  have bb : ∀ o : Option Bool, (o.bind fun r4 => some r4) = o := fun o => by cases o <;> rfl
  rw [bb]
  unfold Z5g
  simp only [bneI]
  by_cases h1 : (factAt d i).1 = x.1
  ·by_cases h2 : (factAt d k).1 = x.2.1
   ·obtain ⟨k1, k2, k3, k4, k5⟩ := Y37 hv hc hi hk h1 h2
    simp only [h1, h2, decide_true, Bool.not_true, cond_false, k1, k2, k3, k4, grd_true, Bool.true_and]
    by_cases h3 : at_ 0 (factAt d i).2 x.2.2.1 = at_ 0 (factAt d k).2 x.2.2.2.1
    ·simp only [h3, decide_true, Bool.not_true, cond_false, Bool.true_and]
     rcases k5 with k5 | k5
     ·simp only [k5, if_true, beqI, decide_true, cond_true]
      by_cases h5 : at_ 0 (factAt d i).2 x.2.2.2.2.1 = at_ 0 (factAt d k).2 x.2.2.2.2.2.1
      ·simp [h5]
      ·simp [h5]
     ·simp [k5, beqI]
    ·simp only [h3, decide_false, Bool.not_false, cond_true, Bool.false_and]
   ·simp only [h1, h2, decide_true, decide_false, Bool.not_true, Bool.not_false, cond_false, cond_true, Bool.false_and, Bool.true_and]
  ·simp only [h1, decide_false, Bool.not_false, cond_true, Bool.false_and]
theorem Y2t (s : List Int) (v : Int) : (s.any fun x => decide (v = x)) = decide (v ∈ s) := by
 induction s with
 | nil => rfl
 | cons x s ih => simp only [List.any_cons, ih, List.mem_cons, Bool.decide_or]
theorem Y38 {s : List Int} {v : Int} (hs : s.length <= 1048576) (hN : 1048576 < N) : Z0b N s v = some (decide (v ∈ s)) := by
 unfold Z0b Z2c Z5d
 rw [Yw (d := (0 : Int)) (xs := s) (p := fun x => decide (v = x)) (first (n := s.length) (fun j => decide (v = s.getD j 0)) (fun k i => Z1t N k s v (s.length : Int) i) (fun k => by simp [Z1t, Z38]) (fun k j hj => ?_) (by omega)), Y2t]
 have h1 : (j : Int) < (s.length : Int) := by omega
 simp only [Z1t, Z38, h1, decide_true, cond_true, Y0 hj, grd_true, Y2 hj, Y3 hj, Y1 (j := j) (by omega), beqI]
 cases decide (v = s[j]) <;> rfl
theorem Y39 {s : List Int} {v : Int} (hs : s.length <= 1048576) (hN : 1048576 < N) : Z4d N s v = some (decide (v ∈ s)) := by
 unfold Z4d Z7e
 rw [Y8 (n := s.length) (fun j => !decide (s.getD j 0 = v)) (some true) (some false) (fun k i => Z5f N k s v i) (fun k => by simp [Z5f, Z68]) (fun k j hj => ?_) (by omega)]
 ·by_cases h : v ∈ s
  ·rw [decide_eq_true h]
   obtain ⟨j, hj, rfl⟩ := List.mem_iff_getElem.1 h
   rw [if_neg (fun h' => by have := h' j hj; rw [Y3 hj] at this; simp at this)]
  ·rw [decide_eq_false h, if_pos (fun j hj => by
    rw [Y3 hj]
    have : ¬ s[j] = v := fun e => h (e ▸ List.getElem_mem hj)
    simp [this])]
 ·have h1 : (j : Int) < (s.length : Int) := by omega
  simp only [Z5f, Z68, h1, decide_true, cond_true, Y0 hj, grd_true, Y2 hj, Y3 hj, Y1 (j := j) (by omega), beqI]
  cases decide (s[j] = v) <;> simp
structure Good (n : Int) (c : List Int) : Prop where
 lit : ∀ x ∈ c, x ≠ 0 /\ -n <= x /\ x <= n
 one : c.Pairwise fun x y => x ≠ y /\ x ≠ -y
theorem Y2u : ∀ (n : Nat) (l : List Nat), l.Nodup -> (∀ x ∈ l, 1 <= x /\ x <= n) -> l.length <= n
 | 0, l, _, h => by
  cases l with
  | nil => simp
  | cons x l => have := h x (by simp); omega
 | n + 1, l, hn, h => by
  have := Y2u n (l.erase (n + 1)) (hn.erase _) (fun x hx => by
   have h1 := (hn.mem_erase_iff).1 hx
   have := h x h1.2
   have := h1.1
   omega)
  rw [List.length_erase] at this
  split at this <;> omega
theorem Good.few {n : Int} {c : List Int} (h0 : 0 <= n) (h : Good n c) : (c.length : Int) <= n := by
 have := Y2u n.toNat (c.map Int.natAbs) (by
  unfold List.Nodup
  rw [List.pairwise_map]
  exact h.one.imp (fun {x y} hxy e => by omega)) (fun x hx => by
  obtain ⟨y, hy, rfl⟩ := List.mem_map.1 hx
  have := h.lit y hy
  omega)
 rw [List.length_map] at this
 omega
theorem Y4v {d : Db} (h : b_Database d) : SmallDb d := ⟨h.1.1, h.2.1, fun f hf => h.2.2 f hf⟩
def vany (d : Db) (l : List Con) (i k : Nat) : Bool := l.any fun x => viol d x i k || viol d x k i
def edge (d : Db) (l : List Con) (i k : Nat) : Bool := sameD d i k || vany d l i k
def edgeP (d : Db) (l : List Con) (i k : Nat) : List (Int × Int) := if edge d l i k then [((i : Int), (k : Int))] else []
def edgeR (d : Db) (l : List Con) (i : Nat) : List (Int × Int) := (List.range' (i + 1) (d.2.length - (i + 1))).flatMap (edgeP d l i)
def edgesOf (d : Db) (l : List Con) : List (Int × Int) := (List.range d.2.length).flatMap (edgeR d l)
theorem Y1d (d : Db) (l : List Con) (i k : Nat) : (edgeP d l i k).length <= 1 := by unfold edgeP; split <;> simp
theorem Y1e {β : Type} {piece : Nat -> List β} {m : Nat} (h : ∀ k, (piece k).length <= m) (s n : Nat) : ((List.range' s n).flatMap piece).length <= n * m := by
 have := Yv (piece := piece) (n := m) (a := List.range' s n) (fun x _ => h x)
 simpa using this
theorem Y1f {d : Db} (hv : ValidDb d) (l : List Con) (i : Nat) : (edgeR d l i).length <= 14 := by
 have := Y1e (Y1d d l i) (i + 1) (d.2.length - (i + 1))
 have := hv.few
 unfold edgeR; omega
theorem Y3u {d : Db} (hv : ValidDb d) (l : List Con) : (edgesOf d l).length <= 196 := by
 have := Yv (piece := edgeR d l) (n := 14) (a := List.range d.2.length) (fun x _ => Y1f hv l x)
 have := hv.few
 simp only [List.length_range] at *
 unfold edgesOf
 omega
theorem Y1p {α : Type} {l : List α} {p : α -> Bool} {j : Nat} (h : j < l.length) : (l.drop j).any p = (p l[j] || (l.drop (j + 1)).any p) := by rw [List.drop_eq_getElem_cons h, List.any_cons]
theorem Yi {d : Db} {k : Nat} (hk : k < d.2.length) : factAt d k ∈ d.2 := by unfold factAt; rw [Y3 hk]; exact List.getElem_mem hk
theorem Yt {N : Nat} {d : Db} {l : List Con} (h : SmallDb d) (hl : l.length <= 1048576) (hvb : validDb d = true) (hN : 1048576 < N) {i k : Nat} (hik : i < k) (hk : k < d.2.length) (Rc : List Con -> List Rel -> List Fact -> List (Int × Int) -> Int -> Int -> Option (List (Int × Int))) {out : List (Int × Int)} (ho : out.length <= 1000) :
  ∀ {f j : Nat} {is_ : Bool}, l.length - j < f -> j <= l.length -> Z28 Rc N f l d.1 d.2 out i k is_ (j : Int) = Rc l d.1 d.2 (out ++ (if is_ || (l.drop j).any (fun x => viol d x i k || viol d x k i) then [((i : Int), (k : Int))] else [])) i ((k + 1 : Nat) : Int)
 | 0, j, is_, hf, hj => by omega
 | f + 1, j, is_, hf, hj => by
  have few := (Y4 hvb).few
  by_cases hlt : j < l.length
  ·have h1 : (j : Int) < (l.length : Int) := by omega
   simp only [Z28, Z3y, h1, decide_true, cond_true, Y1 (j := j) (by omega), Y0 hlt, grd_true, Y2 hlt]
   rw [Y1p hlt]
   cases is_ with
   | true =>
    rw [cond_true, Yt h hl hvb hN hik hk Rc ho (by omega) (by omega)]
    simp
   | false =>
    have v1 := Y1o (x := l[j]) h hvb hN (i := i) (k := k) (by omega) hk (by omega)
    have v2 := Y1o (x := l[j]) h hvb hN (i := k) (k := i) hk (by omega) (by omega)
    rw [cond_false]
    erw [v1]
    rw [Option.bind_some]
    cases hv1 : viol d l[j] i k with
    | true =>
     rw [cond_true, Yt h hl hvb hN hik hk Rc ho (by omega) (by omega)]
     simp
    | false =>
     rw [cond_false]
     erw [v2]
     rw [Option.bind_some, Yt h hl hvb hN hik hk Rc ho (by omega) (by omega)]
     simp only [Bool.false_or]
  ·have : j = l.length := by omega
   subst this
   have h1 : ¬ (l.length : Int) < (l.length : Int) := by omega
   simp only [Z28, Z3y, h1, decide_false, cond_false, Y1 (j := k) (by omega), List.drop_length, List.any_nil, Bool.or_false]
   cases is_ with
   | true =>
    have : appOk out [((i : Int), (k : Int))] 16 = true := Y2n (by simp only [List.length_singleton]; omega)
    rw [cond_true, this, grd_true, if_pos rfl]
   | false => simp
theorem Y3v {d : Db} {l : List Con} (h : SmallDb d) (hl : l.length <= 1048576) (hvb : validDb d = true) (hN : 1048576 < N) {i : Nat} (hi : i < d.2.length) (R0 : List Con -> List Rel -> List Fact -> List (Int × Int) -> Int -> Option (List (Int × Int))) {out : List (Int × Int)} (ho : out.length <= 500) :
  Z0o R0 N N l d.1 d.2 out i ((i + 1 : Nat) : Int) = R0 l d.1 d.2 (out ++ edgeR d l i) ((i + 1 : Nat) : Int) := by
 have few := (Y4 hvb).few
 have hv := Y4 hvb
 refine Yp (n := d.2.length) (m := 1) (B := 1000) (edgeP d l i) (f := fun k out j => Z0o R0 N k l d.1 d.2 out i j) (g := fun out => R0 l d.1 d.2 out ((i + 1 : Nat) : Int)) (Y1d d l i) (fun k out => by
  have h1 : ¬ (d.2.length : Int) < (d.2.length : Int) := by omega
  simp only [Z0o, Z3z, h1, decide_false, cond_false, Y1 (j := i) (by omega)]) (lo := i + 1) (fun f out k hik hk hB => ?_) (by omega) (by omega) (by omega) (by omega)
 have hik : i < k := hik
 have h1 : (k : Int) < (d.2.length : Int) := by omega
 simp only [Z0o, Z3z, h1, decide_true, cond_true, Y0 hi, Y0 hk, grd_true, Ye hi, Ye hk]
 rw [Y4g h.rels (h.vals _ (Yi hi)) (h.vals _ (Yi hk)) hN hv.rels (hv.fact i hi) (hv.fact k hk), Option.bind_some]
 have := Yt h hl hvb hN hik hk (Z0o R0 N f) hB (f := N) (j := 0) (is_ := sameK d.1 (factAt d i) (factAt d k)) (by omega) (by omega)
 rw [show ((0 : Nat) : Int) = 0 from rfl] at this
 rw [this, List.drop_zero]
 rfl
theorem Y3w {d : Db} {l : List Con} (h : SmallDb d) (hl : l.length <= 1048576) (hN : 1048576 < N) : Z2i N d l = some (if validDb d then edgesOf d l else []) := by
 have hf := h.facts
 unfold Z2i Z5y
 cases hvb : validDb d with
 | false =>
  obtain ⟨n, rfl⟩ : ∃ n, N = n + 1 := ⟨N - 1, by omega⟩
  simp only [Z16, Z2v]
  have := Y1c h hN
  rw [hvb] at this
  have this : Z8 (n + 1) (d.1, d.2) = some false := this
  rw [this]
  by_cases h0 : (0 : Int) < (d.2.length : Int)
  ·rw [decide_eq_true h0]; rfl
  ·rw [decide_eq_false h0]; rfl
 | true =>
  have hv := Y4 hvb
  have few := hv.few
  rw [if_pos rfl]
  have := Yp (n := d.2.length) (m := 14) (B := 400) (lo := 0) (edgeR d l) (f := fun k out j => Z16 N k l d.1 d.2 out j) (g := fun out => some out) (Y1f hv l) (fun k out => by
   have h1 : ¬ (d.2.length : Int) < (d.2.length : Int) := by omega
   simp only [Z16, Z2v, h1, decide_false, cond_false]) (fun f out i _ hi hB => by
   have h1 : (i : Int) < (d.2.length : Int) := by omega
   have hd := Y1c h hN
   rw [hvb] at hd
   have hd : Z8 N (d.1, d.2) = some true := hd
   simp only [Z16, Z2v, h1, decide_true, cond_true, hd, Option.bind_some, Y1 (j := i) (by omega)]
   rw [Y3v h hl hvb hN hi _ (by omega)]) (k := N) (j := 0) (out := []) (by omega) (by omega) (by omega) (by simp only [List.length_nil]; omega)
  rw [show ((0 : Nat) : Int) = 0 from rfl] at this
  rw [this, List.nil_append, Nat.sub_zero, <- List.range_eq_range']
  rfl
theorem Y3x {d : Db} {l : List Con} (h : SmallDb d) (hl : l.length <= 1048576) (hvb : validDb d = true) (hN : 1048576 < N) {i k : Nat} (hik : i < k) (hk : k < d.2.length) : Z1s N i k l d = some (edge d l i k) := by
 have hv := Y4 hvb
 have go : ∀ {f j : Nat}, l.length - j < f -> j <= l.length -> Z1r N f i k d.1 d.2 l (l.length : Int) (j : Int) = some ((l.drop j).any (fun x => viol d x i k || viol d x k i) || sameD d i k) := by
  intro f
  induction f with
  | zero => intro j hf hj; omega
  | succ f ih =>
   intro j hf hj
   by_cases hlt : j < l.length
   ·have h1 : (j : Int) < (l.length : Int) := by omega
    have v1 := Y1o (x := l[j]) h hvb hN (i := i) (k := k) (by omega) hk (by omega)
    have v1 := Y2s (x := l[j]) h hvb hN (i := i) (k := k) (by omega) hk (by omega)
    have v2 := Y2s (x := l[j]) h hvb hN (i := k) (k := i) hk (by omega) (by omega)
    simp only [Z1r, Z37, h1, decide_true, cond_true, Y1 (j := j) (by omega), Y0 hlt, grd_true, Y2 hlt]
    rw [Y1p hlt]
    erw [v1]
    rw [Option.bind_some]
    cases hv1 : viol d l[j] i k with
    | true => simp
    | false =>
     rw [cond_false]
     erw [v2]
     rw [Option.bind_some]
     cases hv2 : viol d l[j] k i with
     | true => simp
     | false =>
      rw [cond_false, ih (by omega) (by omega)]
      simp only [Bool.false_or]
   ·have : j = l.length := by omega
    subst this
    have h1 : ¬ (l.length : Int) < (l.length : Int) := by omega
    have hi : i < d.2.length := by omega
    simp only [Z1r, Z37, h1, decide_false, cond_false, List.drop_length, List.any_nil, Bool.false_or, Y0 hi, Y0 hk, grd_true, Ye hi, Ye hk]
    rw [Y4h (h.vals _ (Yi hi)) (h.vals _ (Yi hk)) hN hv.rels (hv.fact i hi) (hv.fact k hk)]
    rfl
 unfold Z1s Z5c
 have := go (f := N) (j := 0) (by omega) (by omega)
 rw [show ((0 : Nat) : Int) = 0 from rfl] at this
 rw [this, List.drop_zero, Bool.or_comm]
 rfl
theorem Y3y {d : Db} {l : List Con} (h : SmallDb d) (hl : l.length <= 1048576) (hvb : validDb d = true) (hN : 1048576 < N) {i : Nat} (hi : i < d.2.length) (R0 : Int -> List Con -> Db -> List (Int × Int) -> Int -> Int -> Option (List (Int × Int))) {out : List (Int × Int)} (ho : out.length <= 500) :
  Z0i R0 N N (d.2.length : Int) l d out i ((i + 1 : Nat) : Int) (d.2.length : Int) i = R0 (d.2.length : Int) l d (out ++ edgeR d l i) (d.2.length : Int) ((i + 1 : Nat) : Int) := by
 have few := (Y4 hvb).few
 refine Yp (n := d.2.length) (m := 1) (B := 1000) (edgeP d l i) (f := fun k out j => Z0i R0 N k (d.2.length : Int) l d out i j (d.2.length : Int) i) (g := fun out => R0 (d.2.length : Int) l d out (d.2.length : Int) ((i + 1 : Nat) : Int)) (Y1d d l i) (fun k out => by
  have h1 : ¬ (d.2.length : Int) < (d.2.length : Int) := by omega
  simp only [Z0i, Z20, h1, decide_false, cond_false, Y1 (j := i) (by omega)]) (lo := i + 1) (fun f out k hik hk hB => ?_) (by omega) (by omega) (by omega) (by omega)
 have hik : i < k := hik
 have h1 : (k : Int) < (d.2.length : Int) := by omega
 simp only [Z0i, Z20, h1, decide_true, cond_true, Y3x h hl hvb hN hik hk, Option.bind_some, Y1 (j := k) (by omega)]
 unfold edgeP
 cases edge d l i k with
 | true =>
  have : appOk out [((i : Int), (k : Int))] 16 = true := Y2n (by simp only [List.length_singleton]; omega)
  rw [cond_true, this, grd_true, if_pos rfl]
 | false => simp
theorem Y3z {d : Db} {l : List Con} (h : SmallDb d) (hl : l.length <= 1048576) (hN : 1048576 < N) : Z2k N d l = some (if validDb d then edgesOf d l else []) := by
 have hf := h.facts
 unfold Z2k
 rw [Y2q h hN, Option.bind_some]
 cases hvb : validDb d with
 | false => rfl
 | true =>
  have hv := Y4 hvb
  have few := hv.few
  rw [if_pos rfl, Bool.not_true, cond_false]
  unfold Z17 Z3x
  have := Yp (n := d.2.length) (m := 14) (B := 400) (lo := 0) (edgeR d l) (f := fun k out j => Z0j N k (d.2.length : Int) l d out (d.2.length : Int) j) (g := fun out => some out) (Y1f hv l) (fun k out => by
   have h1 : ¬ (d.2.length : Int) < (d.2.length : Int) := by omega
   simp only [Z0j, Z21, h1, decide_false, cond_false]) (fun f out i _ hi hB => by
   have h1 : (i : Int) < (d.2.length : Int) := by omega
   simp only [Z0j, Z21, h1, decide_true, cond_true, Y1 (j := i) (by omega)]
   rw [Y3y h hl hvb hN hi _ (by omega)]) (k := N) (j := 0) (out := []) (by omega) (by omega) (by omega) (by simp only [List.length_nil]; omega)
  rw [show ((0 : Nat) : Int) = 0 from rfl] at this
  rw [this, Option.bind_some, List.nil_append, Nat.sub_zero, <- List.range_eq_range']
  rfl
structure EOk (n : Nat) (E : List (Int × Int)) : Prop where
 few : n <= 14
 len : E.length <= 196
 all : ∀ e ∈ E, 0 <= e.1 /\ e.1 < e.2 /\ e.2 < (n : Int)
def ordE (E : List (Int × Int)) (j : Nat) : Bool := decide (j = 0) || (let a := E.getD j (0, 0); let b := E.getD (j - 1) (0, 0); decide (b.1 < a.1) || (decide (b.1 = a.1) && decide (b.2 < a.2)))
def validE (E : List (Int × Int)) : Bool := decide (∀ j, j < E.length -> ordE E j = true)
theorem in14 {n : Nat} (h : n <= 14) : decide ((0 : Int) <= (n : Int) /\ (n : Int) <= 14) = true := decide_eq_true (by omega)
theorem Y40 {N n : Nat} {E : List (Int × Int)} (h : EOk n E) (hN : 1048576 < N) : Z1i N n E = some (validE E) := by
 have hf := h.few
 have hl := h.len
 unfold Z1i Z5z
 rw [Y8 (n := E.length) (ordE E) (some false) (some true) (fun k i => Z29 N k n E i) (fun k => by simp [Z29, Z40, l1In]; omega) (fun k j hj => ?_) (by omega)]
 ·unfold validE
  split
  ·rename_i h4; rw [decide_eq_true h4]
  ·rename_i h4; rw [decide_eq_false h4]
 ·have h1 : (j : Int) < (E.length : Int) := by omega
  have h2 := h.all _ (List.getElem_mem hj)
  have e1 : decide (0 <= E[j].1 /\ E[j].1 <= E[j].2 - 1) = true := decide_eq_true (by omega)
  have e2 : decide (0 <= E[j].2 /\ E[j].2 <= (n : Int) - 1) = true := decide_eq_true (by omega)
  simp only [Z29, Z40, h1, decide_true, cond_true, Y0 hj, grd_true, Y2 hj, l1In, Option.bind_some, Y1 (j := j) (by omega), Y5 (x := E[j].2 - 1) (by omega) (by omega), Y5 (x := (n : Int) - 1) (by omega) (by omega), e1, e2, Bool.not_true, cond_false]
  by_cases h0 : j = 0
  ·subst h0; simp [ordE]
  ·have h3 : (j : Int) > 0 := by omega
   have h4 : j - 1 < E.length := by omega
   simp only [h3, decide_true, cond_true, Y7 (show 0 < j by omega) (by omega), Y0 h4, grd_true, Y2 h4, ordE, h0, decide_false, Bool.false_or, Y3 h4, Y3 hj, beqI]
   by_cases h5 : E[j].1 < E[j - 1].1
   ·have a1 : ¬ E[j - 1].1 < E[j].1 := by omega
    have a2 : ¬ E[j - 1].1 = E[j].1 := by omega
    simp [h5, a1, a2]
   ·by_cases h6 : E[j].1 = E[j - 1].1
    ·have a1 : ¬ E[j - 1].1 < E[j].1 := by omega
     by_cases h7 : E[j].2 <= E[j - 1].2
     ·have a2 : ¬ E[j - 1].2 < E[j].2 := by omega
      simp [h6, h7, a2]
     ·have a2 : E[j - 1].2 < E[j].2 := by omega
      simp [h6, h7, a2]
    ·have a1 : E[j - 1].1 < E[j].1 := by omega
     simp [h5, h6, a1]
theorem Y41 {N n : Nat} {E : List (Int × Int)} (h : EOk n E) (hN : 1048576 < N) : Z1k N n E = some (validE E) := by
 have hf := h.few
 have hl := h.len
 unfold Z1k Z63
 rw [Ym, Option.bind_some, in14 hf, Bool.not_true, cond_false]
 rw [Y8 (n := E.length) (ordE E) (some false) (some true) (fun k i => Z2b N k n E E (E.length : Int) i) (fun k => by simp [Z2b, Z42]) (fun k j hj => ?_) (by omega)]
 ·unfold validE
  split
  ·rename_i h4; rw [decide_eq_true h4]
  ·rename_i h4; rw [decide_eq_false h4]
 ·have h1 : (j : Int) < (E.length : Int) := by omega
  have h2 := h.all _ (List.getElem_mem hj)
  have e1 : ¬ E[j].1 < 0 := by omega
  have e2 : ¬ E[j].1 >= E[j].2 := by omega
  have e3 : ¬ E[j].2 >= (n : Int) := by omega
  simp only [Z2b, Z42, h1, decide_true, cond_true, Y0 hj, grd_true, Y2 hj, Y1 (j := j) (by omega), e1, e2, e3, decide_false, cond_false]
  by_cases h0 : j = 0
  ·subst h0; simp [ordE]
  ·have h3 : (j : Int) > 0 := by omega
   have h4 : j - 1 < E.length := by omega
   simp only [h3, decide_true, cond_true, Y7 (show 0 < j by omega) (by omega), Y0 h4, grd_true, Y2 h4, ordE, h0, decide_false, Bool.false_or, Y3 h4, Y3 hj, beqI]
   by_cases h5 : E[j - 1].1 > E[j].1
   ·have a1 : ¬ E[j - 1].1 < E[j].1 := by omega
    have a2 : ¬ E[j - 1].1 = E[j].1 := by omega
    simp [h5, a1, a2]
   ·by_cases h6 : E[j - 1].1 = E[j].1
    ·by_cases h7 : E[j - 1].2 >= E[j].2
     ·have a2 : ¬ E[j - 1].2 < E[j].2 := by omega
      simp [h6, h7, a2]
     ·have a2 : E[j - 1].2 < E[j].2 := by omega
      simp [h6, h7, a2]
    ·have a1 : E[j - 1].1 < E[j].1 := by omega
     simp [h5, h6, a1]
def indep (E : List (Int × Int)) (s : List Int) : Bool := E.all fun e => !(decide (e.1 ∈ s) && decide (e.2 ∈ s))
theorem Y4i {α : Type} {xs : List α} {p : α -> Bool} (d : α) : xs.all p = decide (∀ j, j < xs.length -> p (xs.getD j d) = true) := by
 rw [Bool.eq_iff_iff, decide_eq_true_eq, List.all_eq_true]
 constructor
 ·intro h j hj
  rw [Y3 hj]; exact h _ (List.getElem_mem hj)
 ·intro h x hx
  obtain ⟨j, hj, rfl⟩ := List.mem_iff_getElem.1 hx
  have := h j hj
  rwa [Y3 hj] at this
theorem Y3a {E : List (Int × Int)} {s : List Int} (he : E.length <= 196) (hs : s.length <= 1000) (hN : 1048576 < N) : Z1j N E s = some (indep E s) := by
 unfold Z1j Z61 indep
 rw [Y4i (0, 0), Y8 (n := E.length) (fun j => !(decide ((E.getD j (0, 0)).1 ∈ s) && decide ((E.getD j (0, 0)).2 ∈ s))) (some false) (some true) (fun k i => Z2a N k E s i) (fun k => by simp [Z2a, Z41]) (fun k j hj => ?_) (by omega)]
 ·split
  ·rename_i h4; rw [decide_eq_true h4]
  ·rename_i h4; rw [decide_eq_false h4]
 ·have h1 : (j : Int) < (E.length : Int) := by omega
  simp only [Z2a, Z41, h1, decide_true, cond_true, Y0 hj, grd_true, Y2 hj, Y3 hj, Y1 (j := j) (by omega), Y39 (s := s) (by omega) hN, Option.bind_some]
  cases decide (E[j].1 ∈ s) <;> cases decide (E[j].2 ∈ s) <;> rfl
theorem Y21 {E : List (Int × Int)} {s : List Int} (he : E.length <= 196) (hs : s.length <= 1000) (hN : 1048576 < N) : Z0l N E s = some (indep E s) := by
 unfold Z0l Z1 Z2 Z0f
 rw [Yw (d := ((0, 0) : Int × Int)) (xs := E) (p := fun e => decide (e.1 ∈ s) && decide (e.2 ∈ s)) (first (n := E.length) (fun j => decide ((E.getD j (0, 0)).1 ∈ s) && decide ((E.getD j (0, 0)).2 ∈ s)) (fun k i => Z0 N k E s (E.length : Int) i) (fun k => by simp [Z0, Z3]) (fun k j hj => ?_) (by omega)), Option.bind_some]
 ·unfold indep
  rw [List.all_eq_not_any_not]
  simp
 ·have h1 : (j : Int) < (E.length : Int) := by omega
  simp only [Z0, Z3, Z2d, h1, decide_true, cond_true, Y0 hj, grd_true, Y2 hj, Y3 hj, Y1 (j := j) (by omega), Y38 (s := s) (by omega) hN, Option.bind_some]
  cases decide (E[j].1 ∈ s) <;> cases decide (E[j].2 ∈ s) <;> rfl
def fitsE (E : List (Int × Int)) (s : List Int) (x : Int) : Bool := !decide (x ∈ s) && indep E (s ++ [x])
theorem Y2v {E : List (Int × Int)} {s : List Int} {x : Int} (he : E.length <= 196) (hs : s.length <= 900) (hN : 1048576 < N) : Z4e N E s x = some (fitsE E s x) := by
 unfold Z4e fitsE
 rw [Y39 (by omega) hN, Option.bind_some]
 cases decide (x ∈ s) with
 | true => rfl
 | false =>
  rw [Bool.not_false, cond_true, Y6 (by omega) (by simp only [List.length_nil]; omega), Y6 (by omega) (by simp only [List.length_singleton]; omega), Y3a he (by simp only [List.length_append, List.length_singleton]; omega) hN]
  rfl
theorem Y4j {N n : Nat} {l : List Int} (hn : n <= 1048576) (hl : l.length <= 1048576) (hN : 1048576 < N) : Z60 N n l = some (validSet n l) := by
 unfold Z60 Z7d
 rw [Y8 (n := l.length) (fun j => decide (0 <= l.getD j 0 /\ l.getD j 0 <= (n : Int) - 1) && (decide (j = 0) || decide (l.getD (j - 1) 0 < l.getD j 0))) (some false) (some true) (fun k i => Z5e N k (n : Int) l i)
  (fun k => by simp [Z5e, Z67]) (fun k j hj => ?_) (by omega)]
 ·unfold validSet
  split
  ·rename_i h4; rw [decide_eq_true h4]
  ·rename_i h4; rw [decide_eq_false h4]
 ·have h1 : (j : Int) < (l.length : Int) := by omega
  simp only [Z5e, Z67, h1, decide_true, cond_true, Y0 hj, grd_true, Y2 hj, l1In, Option.bind_some, Y3 hj, Y1 (j := j) (by omega), Y5 (show -9223372036854775808 <= (n : Int) - 1 by omega) (by omega)]
  cases decide (0 <= l[j] /\ l[j] <= (n : Int) - 1) with
  | false => rfl
  | true =>
   simp only [Bool.not_true, cond_false, Bool.true_and]
   by_cases h0 : j = 0
   ·subst h0; simp
   ·have h3 : (j : Int) > 0 := by omega
    have h4 : j - 1 < l.length := by omega
    simp only [h3, decide_true, cond_true, Y7 (show 0 < j by omega) (by omega), Y0 h4, grd_true, Y2 h4, h0, decide_false, Bool.false_or, Y3 h4]
    by_cases h5 : l[j - 1] < l[j]
    ·have : ¬ l[j] <= l[j - 1] := by omega
     simp [h5, this]
    ·have : l[j] <= l[j - 1] := by omega
     simp [h5, this]
def maxI (n : Nat) (E : List (Int × Int)) (s : List Int) : Bool := validE E && (validSet n s && (indep E s && decide (∀ x, x < n -> (!fitsE E s x) = true)))
theorem Y4w {N n : Nat} {E : List (Int × Int)} {s : List Int} (h : EOk n E) (hs : s.length <= 900) (hN : 1048576 < N) : Z0x N n E s = some (maxI n E s) := by
 have hf := h.few
 unfold Z0x Z4g maxI
 rw [Y40 h hN, Y4j (by omega) (by omega) hN, Y3a h.len (by omega) hN, Option.bind_some, Option.bind_some, Option.bind_some]
 cases validE E with
 | false => rfl
 | true =>
  cases validSet n s with
  | false => rfl
  | true =>
   cases indep E s with
   | false => rfl
   | true =>
    simp only [Bool.not_true, cond_false, Bool.true_and]
    refine Yr (n := n) (fun x => !fitsE E s x) (fun k i => Z10 N k n E s i) (fun k => by simp [Z10, Z26]) (fun k j hj => ?_) (by omega)
    have h1 : (j : Int) < (n : Int) := by omega
    simp only [Z10, Z26, h1, decide_true, cond_true, Y2v h.len hs hN, Option.bind_some, Y1 (j := j) (by omega)]
    cases fitsE E s j <;> simp
theorem Y3b {s : List Int} (hs : s.length <= 1000) : Z3g N s = some s := by
 unfold Z3g
 rw [decide_eq_true (by omega), grd_true]
theorem Y4x {N n : Nat} {E : List (Int × Int)} {s : List Int} (h : EOk n E) (hs : s.length <= 900) (hN : 1048576 < N) : Z0y N n E s = some (maxI n E s) := by
 have hf := h.few
 unfold Z0y Z4h Z2e maxI
 rw [Y41 h hN, Y4t (by omega) (by omega) hN, Y21 h.len (by omega) hN, Option.bind_some, Option.bind_some, Option.bind_some]
 cases validE E with
 | false => rfl
 | true =>
  cases validSet n s with
  | false => rfl
  | true =>
   cases indep E s with
   | false => rfl
   | true =>
    simp only [Bool.not_true, cond_false, cond_true, Option.bind_some, Bool.true_and]
    refine Yr (n := n) (fun x => !fitsE E s x) (fun k i => Z11 N k E s n i) (fun k => by simp [Z11, Z27]) (fun k j hj => ?_) (by omega)
    have h1 : (j : Int) < (n : Int) := by omega
    simp only [Z11, Z27, h1, decide_true, cond_true, Y38 (s := s) (by omega) hN, Option.bind_some, Y1 (j := j) (by omega), Y3b (N := N) (s := s) (by omega)]
    rw [Y6 (by omega) (by simp only [List.length_singleton]; omega), grd_true, Y21 h.len (by simp only [List.length_append, List.length_singleton]; omega) hN, Option.bind_some]
    unfold fitsE
    cases decide ((j : Int) ∈ s) <;> cases indep E (s ++ [(j : Int)]) <;> simp
def walk (n : Nat) (E : List (Int × Int)) : Nat -> List Int -> Nat -> List (List Int)
 | 0, s, x => if maxI n E s then [s] else []
 | m + 1, s, x => (if indep E (s ++ [(x : Int)]) then walk n E m (s ++ [(x : Int)]) (x + 1) else []) ++ walk n E m s (x + 1)
theorem Yh {n : Nat} {E : List (Int × Int)} : ∀ (m : Nat) (s : List Int) (x : Nat), (walk n E m s x).length <= 2 ^ m
 | 0, s, x => by simp only [walk]; split <;> simp
 | m + 1, s, x => by
  have h1 := Yh (n := n) (E := E) m (s ++ [(x : Int)]) (x + 1)
  have h2 := Yh (n := n) (E := E) m s (x + 1)
  simp only [walk, List.length_append, Nat.pow_succ]
  split
  ·omega
  ·simp only [List.length_nil]; omega
theorem Y1q {n : Nat} {E : List (Int × Int)} : ∀ (m : Nat) (s : List Int) (x : Nat), s.length <= x -> ∀ r ∈ walk n E m s x, r.length <= x + m
 | 0, s, x, hs, r, hr => by
  simp only [walk] at hr
  split at hr
  ·simp only [List.mem_singleton] at hr; subst hr; omega
  ·simp at hr
 | m + 1, s, x, hs, r, hr => by
  simp only [walk, List.mem_append] at hr
  rcases hr with hr | hr
  ·split at hr
   ·have := Y1q m (s ++ [(x : Int)]) (x + 1) (by simp; omega) r hr
    omega
   ·simp at hr
  ·have := Y1q m s (x + 1) (by omega) r hr
   omega
def touch (x : Int) (e : Int × Int) : Bool := decide (e.1 = x) || decide (e.2 = x)
theorem Y3e {E : List (Int × Int)} {s : List Int} {y : Int} (h : E.any (touch y) = false) (hi : indep E s = true) : indep E (s ++ [y]) = true := by
 unfold indep at *
 rw [List.all_eq_true] at *
 intro e he
 have h1 := hi e he
 have h2 : ¬ (touch y e = true) := fun h3 => by
  have : E.any (touch y) = true := List.any_eq_true.2 ⟨e, he, h3⟩
  rw [h] at this; exact absurd this (by decide)
 have h3 : e.1 ≠ y /\ e.2 ≠ y := by
  simp only [touch, Bool.or_eq_true, decide_eq_true_eq, not_or] at h2
  exact h2
 have m1 : (e.1 ∈ s ++ [y]) ↔ e.1 ∈ s := by simp [h3.1]
 have m2 : (e.2 ∈ s ++ [y]) ↔ e.2 ∈ s := by simp [h3.2]
 simp only [m1, m2]
 exact h1
theorem Y1g {n : Nat} {E : List (Int × Int)} {y : Nat} (hy : y < n) (h : E.any (touch y) = false) : ∀ (m : Nat) (s : List Int) (x : Nat), y < x -> (y : Int) ∉ s -> walk n E m s x = []
 | 0, s, x, hx, hs => by
  simp only [walk]
  rw [if_neg]
  intro hm
  simp only [maxI, Bool.and_eq_true, decide_eq_true_eq] at hm
  have := hm.2.2.2 y hy
  rw [fitsE, decide_eq_false hs, Y3e h hm.2.2.1] at this
  simp at this
 | m + 1, s, x, hx, hs => by
  simp only [walk]
  rw [Y1g hy h m s (x + 1) (by omega) hs, List.append_nil]
  split
  ·exact Y1g hy h m _ (x + 1) (by omega) (by simp only [List.mem_append, List.mem_singleton, not_or]; exact ⟨hs, by omega⟩)
  ·rfl
theorem Y1h {N : Nat} {E : List (Int × Int)} (he : E.length <= 196) (Rf : Int -> List (Int × Int) -> List Int -> Int -> Option (List (List Int))) (n : Int) (s : List Int) (x : Nat) (hx : x <= 1000) (out : List (List Int)) :
  ∀ {f j : Nat} {met : Bool}, E.length - j < f -> j <= E.length -> Z45 N Rf f n E s x out met (j : Int) = bif met || (E.drop j).any (touch x) then ((Rf n E s ((x + 1 : Nat) : Int)).bind fun r4 => grd (appOk out r4 24) <| some (out ++ r4)) else some out
 | 0, j, met, hf, hj => by omega
 | f + 1, j, met, hf, hj => by
  by_cases h : j < E.length
  ·have e1 : (j : Int) < (E.length : Int) := by omega
   simp only [Z45, Z62, e1, decide_true, cond_true, Y0 h, grd_true, Y2 h, Y1 (j := j) (by omega)]
   rw [Y1p h]
   cases met with
   | true => rw [cond_true, Y1h he Rf n s x hx out (by omega) h]; rfl
   | false =>
    rw [cond_false, beqI, beqI]
    unfold touch
    cases decide (E[j].1 = (x : Int)) with
    | true => rw [cond_true, Y1h he Rf n s x hx out (by omega) h]; rfl
    | false =>
     rw [cond_false, Y1h he Rf n s x hx out (by omega) h]
     simp only [Bool.false_or]
     rfl
  ·have : j = E.length := by omega
   subst this
   simp only [Z45, Z62, Int.lt_irrefl, decide_false, cond_false, List.drop_length, List.any_nil, Bool.or_false, Y1 (j := x) (by omega)]
theorem Y3f {m : Nat} (h : m <= 14) : 2 ^ m <= 16384 := Nat.pow_le_pow_right (n := 2) (by decide) h
theorem Y1r {N n : Nat} {E : List (Int × Int)} (h : EOk n E) (hN : 1048576 < N) : ∀ (m f : Nat) (s : List Int) (x : Nat), m < f -> x + m = n -> s.length <= x -> (∀ y ∈ s, y < (x : Int)) -> Z2n N f n E s x = some (walk n E m s x)
 | _, 0, _, _, hf, _, _, _ => by omega
 | 0, f + 1, s, x, hf, hx, hl, hs => by
  have hn := h.few
  obtain rfl : x = n := by omega
  simp only [Z2n, Z6f, beqI, decide_true, cond_true, Y4w h (s := s) (by omega) hN, Option.bind_some, walk]
  cases maxI x E s with
  | true => rw [cond_true, Y6 (by omega) (by simp only [List.length_nil]; omega)]; rfl
  | false => rfl
 | m + 1, f + 1, s, x, hf, hx, hl, hs => by
  have hn := h.few
  have hne : ¬ (x : Int) = (n : Int) := by omega
  have hxs : (x : Int) ∉ s := fun hm => by have := hs _ hm; omega
  have i1 := Y1r h hN m f (s ++ [(x : Int)]) (x + 1) (by omega) (by omega) (by simp; omega) (fun y hy => by
   simp only [List.mem_append, List.mem_singleton] at hy
   rcases hy with hy | hy
   ·have := hs y hy; omega
   ·omega)
  have i2 := Y1r h hN m f s (x + 1) (by omega) (by omega) (by omega) (fun y hy => by have := hs y hy; omega)
  have p1 := Yh (n := n) (E := E) m (s ++ [(x : Int)]) (x + 1)
  have p2 := Yh (n := n) (E := E) m s (x + 1)
  have p3 := Y3f (m := m) (by omega)
  have fin : ∀ out : List (List Int), out.length <= 16384 -> Z45 N (Z2n N f) N n E s x out false 0 = some (out ++ walk n E m s (x + 1)) := by
   intro out ho
   have := Y1h (N := N) h.len (Z2n N f) n s x (by omega) out (f := N) (j := 0) (met := false) (by have := h.len; omega) (by omega)
   rw [show ((0 : Nat) : Int) = 0 from rfl] at this
   rw [this, List.drop_zero, Bool.false_or, i2, Option.bind_some, Y6 (by omega) (by omega), grd_true]
   cases ht : E.any (touch x) with
   | true => rfl
   | false => rw [cond_false, Y1g (by omega) ht m s (x + 1) (by omega) hxs, List.append_nil]
  simp only [Z2n, Z6f, beqI, decide_eq_false hne, cond_false, Y2v h.len (show s.length <= 900 by omega) hN, Option.bind_some, fitsE, decide_eq_false hxs, Bool.not_false, Bool.true_and, walk]
  cases indep E (s ++ [(x : Int)]) with
  | true =>
   rw [cond_true, Y6 (by omega) (by simp only [List.length_nil]; omega), Y6 (by omega) (by simp only [List.length_singleton]; omega), grd_true, grd_true, Y1 (by omega), i1, Option.bind_some, fin _ (by omega)]
   rfl
  | false =>
   rw [cond_false, fin [] (by simp)]
   rfl
theorem Y18 {N n : Nat} {E : List (Int × Int)} (h : EOk n E) (hN : 1048576 < N) : ∀ (m f : Nat) (s : List Int) (x : Nat) (out : List (List Int)), m < f -> x + m = n -> s.length <= x -> out.length + 2 ^ m <= 100000 -> Z0d N f x s n E out n E = some (out ++ walk n E m s x)
 | _, 0, _, _, _, hf, _, _, _ => by omega
 | 0, f + 1, s, x, out, hf, hx, hl, ho => by
  have hn := h.few
  obtain rfl : x = n := by omega
  simp only [Z0d, Z22, beqI, decide_true, cond_true, Y4x h (s := s) (by omega) hN, Option.bind_some, walk]
  cases maxI x E s with
  | true => rw [cond_true, Y6 (by omega) (by simp only [List.length_nil]; omega), Y6 (by omega) (by simp only [List.length_singleton]; omega)]; rfl
  | false => simp
 | m + 1, f + 1, s, x, out, hf, hx, hl, ho => by
  have hn := h.few
  have hne : ¬ (x : Int) = (n : Int) := by omega
  rw [Nat.pow_succ] at ho
  have p1 := Yh (n := n) (E := E) m (s ++ [(x : Int)]) (x + 1)
  simp only [Z0d, Z22, beqI, decide_eq_false hne, cond_false, Y3b (N := N) (s := s) (by omega), Option.bind_some]
  rw [Y6 (by omega) (by simp only [List.length_singleton]; omega), grd_true, Y21 h.len (by simp only [List.length_append, List.length_singleton]; omega) hN, Option.bind_some, Y1 (by omega)]
  simp only [walk]
  cases indep E (s ++ [(x : Int)]) with
  | true =>
   rw [cond_true, Y18 h hN m f (s ++ [(x : Int)]) (x + 1) out (by omega) (by omega) (by simp; omega) (by omega), Option.bind_some, Y18 h hN m f s (x + 1) _ (by omega) (by omega) (by omega) (by rw [List.length_append]; omega), Option.bind_some, List.append_assoc]
   rfl
  | false =>
   rw [cond_false, Y18 h hN m f s (x + 1) out (by omega) (by omega) (by omega) (by omega), Option.bind_some]
   rfl
theorem Y2w {d : Db} {l : List Con} (hv : ValidDb d) : EOk d.2.length (edgesOf d l) := by
 refine ⟨hv.few, Y3u hv l, fun e he => ?_⟩
 unfold edgesOf at he
 obtain ⟨i, hi, he⟩ := List.mem_flatMap.1 he
 unfold edgeR at he
 obtain ⟨k, hk, he⟩ := List.mem_flatMap.1 he
 unfold edgeP at he
 have h1 := List.mem_range.1 hi
 have h2 := List.mem_range'.1 hk
 obtain ⟨q, h3, h4⟩ := h2
 split at he
 ·simp only [List.mem_singleton] at he
  subst he
  simp only
  omega
 ·simp at he
def maxSets (n : Nat) (E : List (Int × Int)) : List (List Int) := if validE E then walk n E n [] 0 else []
theorem Y4k {N n : Nat} {E : List (Int × Int)} (h : EOk n E) (hN : 1048576 < N) : Z0k N n E = some (maxSets n E) := by
 have hn := h.few
 unfold Z0k Z66 maxSets
 rw [Y40 h hN, Option.bind_some]
 cases validE E with
 | false => rfl
 | true =>
  have := Y1r h hN n N [] 0 (by omega) (by omega) (by simp) (by simp)
  rw [show ((0 : Nat) : Int) = 0 from rfl] at this
  rw [Bool.not_true, cond_false, this]
  rfl
theorem Y4l {N n : Nat} {E : List (Int × Int)} (h : EOk n E) (hN : 1048576 < N) : Z0m N n E = some (maxSets n E) := by
 have hn := h.few
 have p := Y3f hn
 unfold Z0m Z0p maxSets
 rw [Y41 h hN, Option.bind_some]
 cases validE E with
 | false => rfl
 | true =>
  have := Y18 h hN n N [] 0 [] (by omega) (by omega) (by simp) (by simp only [List.length_nil]; omega)
  rw [show ((0 : Nat) : Int) = 0 from rfl] at this
  rw [Bool.not_true, cond_false, this]
  rfl
def subsets (d : Db) (l : List Con) : List (List Int) := if validDb d then maxSets d.2.length (edgesOf d l) else []
theorem Y31 {d : Db} {l : List Con} (h : SmallDb d) (hl : l.length <= 1048576) (hN : 1048576 < N) : Z2j N d l = some (subsets d l) := by
 unfold Z2j subsets
 rw [Y1c h hN, Option.bind_some]
 cases hv : validDb d with
 | false => rfl
 | true =>
  rw [Bool.not_true, cond_false, Y3w h hl hN, Option.bind_some, hv, if_pos rfl, Y4k (Y2w (Y4 hv)) hN]
  rfl
theorem Y32 {d : Db} {l : List Con} (h : SmallDb d) (hl : l.length <= 1048576) (hN : 1048576 < N) : Z2l N d l = some (subsets d l) := by
 unfold Z2l subsets
 rw [Y2q h hN, Option.bind_some]
 cases hv : validDb d with
 | false => rfl
 | true =>
  rw [Bool.not_true, cond_false, Y3z h hl hN, Option.bind_some, hv, if_pos rfl, Y4l (Y2w (Y4 hv)) hN]
  rfl
theorem Ya (d : Db) (l : List Con) : (subsets d l).length <= 16384 /\ ∀ r ∈ subsets d l, r.length <= 14 := by
 unfold subsets
 by_cases hv : validDb d = true
 ·rw [if_pos hv]
  have hn := (Y4 hv).few
  unfold maxSets
  split
  ·refine ⟨Nat.le_trans (Yh _ _ _) (Y3f hn), fun r hr => ?_⟩
   have := Y1q d.2.length [] 0 (by simp) r hr
   omega
  ·exact ⟨by simp, by simp⟩
 ·rw [if_neg hv]; exact ⟨by simp, by simp⟩
def cardN (all : List (List Int)) : Int := all.foldl (fun n s => imax n (s.length : Int)) 0
def cardL (all : List (List Int)) : List (List Int) := all.filter fun s => (s.length : Int) == cardN all
theorem Y23 {α : Type} {p : α -> Bool} {l out : List α} {j : Nat} (h : j < l.length) : out ++ (l.drop j).filter p = (if p l[j] then out ++ [l[j]] else out) ++ (l.drop (j + 1)).filter p := by
 rw [List.drop_eq_getElem_cons h, List.filter_cons]
 cases hp : p l[j] <;> simp
theorem Y4m {α : Type} {ix : List Int} {i : Int} {x : List α} {b : Nat} (h : ∀ k ∈ ix, k < i) (hb : (x.length + 1) * b <= 140737488355328) : selOk ix i x b = true := by
 unfold selOk
 rw [Bool.and_eq_true, List.all_eq_true]
 exact ⟨fun k hk => decide_eq_true (h k hk), decide_eq_true hb⟩
theorem Y42 {ix : List Int} {j : Nat} (h : ∀ k ∈ ix, k < (j : Int)) : ∀ k ∈ ix ++ [(j : Int)], k < ((j + 1 : Nat) : Int) := by
 intro k hk
 rcases List.mem_append.1 hk with h' | h'
 ·have := h k h'; omega
 ·rw [List.mem_singleton] at h'; omega
theorem Y43 {j : Nat} : ∀ k ∈ [(j : Int)], k < ((j + 1 : Nat) : Int) := by
 intro k h'
 rw [List.mem_singleton] at h'; omega
theorem Y4n {ix : List Int} {j : Nat} (h : ∀ k ∈ ix, k < (j : Int)) : ∀ k ∈ ix, k < ((j + 1 : Nat) : Int) := by
 intro k hk
 have := h k hk; omega
theorem Y2x {N : Nat} {all : List (List Int)} (ha : all.length <= 16384) {n : Int} : ∀ {f j : Nat} {ix : List Int} {out : List (List Int)}, all.length - j < f -> j <= all.length -> out.length <= j -> (∀ k ∈ ix, k < (j : Int)) -> Z1c N f ix out all n (j : Int) = some (out ++ (all.drop j).filter fun s => (s.length : Int) == n) /\ Z1f N f n all ix out all (all.length : Int) (j : Int) = some (out ++ (all.drop j).filter fun s => (s.length : Int) == n)
 | 0, j, ix, out, hf, _, _, _ => by omega
 | f + 1, j, ix, out, hf, hj, ho, hx => by
  by_cases h : j < all.length
  ·have e1 : (j : Int) < (all.length : Int) := by omega
   rw [Y23 h]
   simp only [Z1c, Z2p, Z1f, Z2s, e1, decide_true, cond_true, Y0 h, grd_true, Y2 h, Y1 (j := j) (by omega)]
   cases (((all[j]).length : Int) == n) with
   | true =>
    rw [cond_true, cond_true, Y4m hx (by omega), grd_true, grd_true]
    exact Y2x ha (by omega) h (by simp; omega) (Y42 hx)
   | false => exact Y2x ha (by omega) h (by omega) (Y4n hx)
  ·have : j = all.length := by omega
   subst this
   simp only [Z1c, Z2p, Z1f, Z2s, Int.lt_irrefl, decide_false, cond_false]
   simp
theorem Y44 {N : Nat} {all : List (List Int)} (ha : all.length <= 16384) {n : Int} : ∀ {f j : Nat}, all.length - j < f -> j <= all.length -> all.length < N -> Z1d N f [] all n (j : Int) = some ((all.drop j).filter fun s => (s.length : Int) == n) /\ Z1g N f n all [] all (all.length : Int) (j : Int) = some ((all.drop j).filter fun s => (s.length : Int) == n)
 | 0, j, hf, _, _ => by omega
 | f + 1, j, hf, hj, hN => by
  by_cases h : j < all.length
  ·have e1 : (j : Int) < (all.length : Int) := by omega
   have e2 := Y23 (p := fun s : List Int => (s.length : Int) == n) (out := []) h
   rw [List.nil_append] at e2
   rw [e2]
   simp only [Z1d, Z2q, Z1g, Z2t, e1, decide_true, cond_true, Y0 h, grd_true, Y2 h, Y1 (j := j) (by omega)]
   cases (((all[j]).length : Int) == n) with
   | true =>
    rw [cond_true, cond_true, show selOk0 ([] : List (List Int)) 24 = true from rfl, grd_true, grd_true]
    exact Y2x ha (by omega) h (by simp) Y43
   | false => exact Y44 ha (by omega) h hN
  ·have : j = all.length := by omega
   subst this
   simp only [Z1d, Z2q, Z1g, Z2t, Int.lt_irrefl, decide_false, cond_false]
   simp
theorem Y2y {N : Nat} {all : List (List Int)} (ha : all.length <= 16384) (hN : 1048576 < N) : ∀ {f j : Nat} {n : Int}, all.length - j < f -> j <= all.length -> n = cardN (all.take j) -> Z1e N f [] all n (j : Int) = some (cardL all) /\ Z1h N f n all [] all (all.length : Int) (j : Int) = some (cardL all)
 | 0, j, n, hf, _, _ => by omega
 | f + 1, j, n, hf, hj, hn => by
  by_cases h : j < all.length
  ·have e1 : (j : Int) < (all.length : Int) := by omega
   simp only [Z1e, Z2r, Z1h, Z2u, e1, decide_true, cond_true, Y0 h, grd_true, Y2 h, Y1 (j := j) (by omega)]
   exact Y2y ha hN (by omega) h (by rw [List.take_succ_eq_append_getElem h, cardN, List.foldl_append, hn]; rfl)
  ·have : j = all.length := by omega
   subst this
   rw [List.take_length] at hn
   subst hn
   simp only [Z1e, Z2r, Z1h, Z2u, Int.lt_irrefl, decide_false, cond_false]
   have := Y44 (N := N) ha (n := cardN all) (f := N) (j := 0) (by omega) (by omega) (by omega)
   simpa [cardL] using this
theorem Y45 {d : Db} {l : List Con} (h : SmallDb d) (hl : l.length <= 1048576) (hN : 1048576 < N) : Z19 N d l = some (cardL (subsets d l)) := by
 unfold Z19 Z4v
 rw [Y31 h hl hN, Option.bind_some]
 exact (Y2y (Ya d l).1 hN (f := N) (j := 0) (n := 0) (by have := (Ya d l).1; omega) (by omega) (by simp [cardN])).1
theorem Y46 {d : Db} {l : List Con} (h : SmallDb d) (hl : l.length <= 1048576) (hN : 1048576 < N) : Z0v N d l = some (cardL (subsets d l)) := by
 unfold Z0v Z4y
 rw [Y32 h hl hN, Option.bind_some]
 exact (Y2y (Ya d l).1 hN (f := N) (j := 0) (n := 0) (by have := (Ya d l).1; omega) (by omega) (by simp [cardN])).2
structure Some (d : Db) (l : List Con) (ss : List (List Int)) : Prop where
 few : ss.length <= 16384
 sub : ∀ r ∈ ss, r ∈ subsets d l
theorem Y1x (d : Db) (l : List Con) : Some d l (cardL (subsets d l)) := ⟨Nat.le_trans (List.length_filter_le _ _) (Ya d l).1, fun r h => (List.mem_filter.1 h).1⟩
theorem Y2z {α : Type} {s : α -> Nat} {m : Nat} : ∀ {a : List α}, (∀ x ∈ a, s x <= m) -> sumL s a <= a.length * (m + 1)
 | [], _ => by simp [sumL]
 | x :: a, h => by
  have h1 := Y2z (m := m) (a := a) (s := s) fun y hy => h y (by simp [hy])
  have h2 := h x (by simp)
  simp only [sumL, List.length_cons, Nat.add_mul, Nat.one_mul] at h1 ⊢
  simp at h1 ⊢
  omega
theorem law_CardinalityRepairs (hN : 1048576 < N) {d : T_Database} {l : T_DenialConstraintS} (hd : in_Database d) (hl : in_DenialConstraintS l) : laws_FnExactCardinalityRepairs N d l = some true := by
 unfold laws_FnExactCardinalityRepairs
 rw [Y2k hd (by omega) (by omega) hN, Option.bind_some]
 by_cases h1 : (s_Database d : Int) <= 1048576
 case neg => rw [Yc h1]; rfl
 rw [Yg h1, Yk (by omega), cond_false, Y11 hl (by omega) (by omega) hN, Option.bind_some]
 by_cases h2 : (s_DenialConstraintS l : Int) <= 1048576 - (s_Database d : Int)
 case neg => rw [Yc h2]; rfl
 rw [Yg h2, Yk (by omega), cond_false]
 have hb : b_Database d := Y2b (by omega)
 have hbl : b_DenialConstraintS l := Yu (by omega)
 have hm := mtOk hN
 have hs := Y4v hb
 have hll : l.length <= 1048576 := hbl
 have hf : (cardL (subsets d l)).length <= 16384 /\ ∀ x ∈ cardL (subsets d l), x.length <= 14 := ⟨(Y1x d l).few, fun x hx => (Ya d l).2 x ((Y1x d l).sub x hx)⟩
 have hsr : s_IntSS (cardL (subsets d l)) <= 16384 * 15 := Nat.le_trans (Y2z (m := 14) fun x hx => hf.2 x hx) (Nat.mul_le_mul hf.1 (by omega))
 have hr : b_IntSS (cardL (subsets d l)) := Y3c (by omega)
 have hcd := Y2l d
 have hcl := Y12 l
 have hcr := Y3i (cardL (subsets d l))
 simp only [Y2i hb hN, Yz hbl hN, Option.bind_some, Y45 hs hll hN, Y46 hs hll hN, Y3h hr hN, Y2j hb hN, Y10 hbl hN, decide_true, Bool.not_true, cond_false]
 rw [Y2m hm hb (by omega) (by omega) hN, Option.bind_some]
 simp only
 rw [Y13 hbl (by omega) (by omega) hN, Option.bind_some]
 simp only
 rw [Yk (by omega), cond_false, Y3j hr (by omega) (by omega) hN, Option.bind_some]
 simp only [Y3k hr (show (0 : Int) <= 1 by omega) (by omega) hN, Option.bind_some]
 rw [Yk (by omega)]
 simp
end Go.PL
