/- The plain law of the functions read plainly. Conditions: those that stand in each theorem. -/
import Derived.Test.YtonpdomdcgfpfaaGreatPlA

set_option linter.unusedVariables false
set_option linter.unusedSimpArgs false
set_option linter.unnecessarySimpa false

namespace Go.PL
variable {N : Nat}
theorem Y5 {x : Int} (h1 : -9223372036854775808 <= x) (h2 : x <= 9223372036854775807) : w64 x = x := by
 unfold w64 IntKind.wrap
 simp [IntKind.bits, IntKind.signed]
 omega
theorem Y0 {j : Nat} (h : j < 4611686018427387904) : w64 ((j : Int) + 1) = ((j + 1 : Nat) : Int) := by
 rw [Y5 (by omega) (by omega)]; omega
@[simp] theorem grd_true {α : Type} (x : Option α) : grd true x = x := rfl
@[simp] theorem grd_false {α : Type} (x : Option α) : grd false x = none := rfl
theorem Yd {α : Type} {b : Int} (h : b ≠ 0) (x : Option α) : grz b x = x := by simp [grz, h]
@[simp] theorem letv_eq {α β : Type} (v : α) (k : α -> β) : letv v k = k v := rfl
theorem Y5r {α : Type} (j : Nat) (xs : List α) : inb (j : Int) xs = decide (j < xs.length) := by
 simp [inb]
theorem Y1 {α : Type} {j : Nat} {xs : List α} (h : j < xs.length) : inb (j : Int) xs = true := by simp [Y5r, h]
theorem Y2 {α : Type} {d : α} {j : Nat} {xs : List α} (h : j < xs.length) : at_ d xs (j : Int) = xs[j] := by simp [at_, h]
theorem Yh {n : Nat} {b : Nat} (h : n * b <= 140737488355328) : makeOk (n : Int) b = true := by
 have h1 : (n : Int) * (b : Int) <= 140737488355328 := by rw [<- Int.natCast_mul]; omega
 have h2 : (0 : Int) <= n := by omega
 simp only [makeOk, h1, h2, decide_true, Bool.and_self]
theorem Y28 (bs : ByteArray) : ∀ (m i : Nat) (r : List UInt8), bs.size - i = m -> ByteArray.toList.loop bs i r = r.reverse ++ bs.data.toList.drop i
 | 0, i, r, h => by
  have hs : bs.data.toList.length = bs.size := rfl
  unfold ByteArray.toList.loop
  rw [if_neg (by omega), List.drop_of_length_le (by omega)]; simp
 | m + 1, i, r, h => by
  have hs : bs.data.toList.length = bs.size := rfl
  unfold ByteArray.toList.loop
  rw [if_pos (by omega), Y28 bs m (i + 1) _ (by omega)]
  have hi : i < bs.data.toList.length := by omega
  rw [List.drop_eq_getElem_cons hi]
  have hi2 : i < bs.data.size := by simpa using hi
  have : bs.get! i = bs.data.toList[i] := by
   show bs.data[i]! = _
   rw [getElem!_pos bs.data i hi2]; simp
  rw [this]; simp
theorem Y1e (bs : ByteArray) : bs.toList = bs.data.toList := by
 unfold ByteArray.toList; rw [Y28 bs _ 0 [] rfl]; simp
theorem Y1f (a b : ByteArray) : seq a b = decide (a = b) := by
 unfold seq
 rw [Y1e, Y1e]
 by_cases h : a = b
 ·subst h; simp
 ·have : ¬ a.data = b.data := fun h2 => h (ByteArray.ext h2)
  simp [h, this]
theorem bneI (a b : Int) : (a != b) = !decide (a = b) := by by_cases h : a = b <;> simp [h]
theorem beqI (a b : Int) : (a == b) = decide (a = b) := by by_cases h : a = b <;> simp [h]
theorem Yj {p : Prop} [Decidable p] {α : Type} (x y : Option α) : (bif !decide p then x else y) = if decide p then y else x := by by_cases h : p <;> simp [h]
theorem loop {σ R : Type} (f : Nat -> σ -> Option R) (I : σ -> Prop) (μ : σ -> Nat) (Q : Option R -> Prop) (hstep : ∀ k s, I s -> Q (f (k + 1) s) \/ ∃ s', I s' /\ μ s' < μ s /\ f (k + 1) s = f k s') : ∀ (k : Nat) (s : σ), μ s < k -> I s -> Q (f k s)
 | 0, s, hk, hs => by omega
 | k + 1, s, hk, hs => by
  rcases hstep k s hs with h | ⟨s', h1, h2, h3⟩
  ·exact h
  ·rw [h3]
   exact loop f I μ Q hstep k s' (by omega) h1
theorem Y2v {α : Type} {out a : List α} {j : Nat} {y : α} (h1 : j < a.length) (h2 : j < out.length) (ht : out.take j = a.take j) (hy : y = a[j]) : (out.set j y).take (j + 1) = a.take (j + 1) := by
 subst hy
 rw [List.take_set, List.take_succ_eq_append_getElem h2, List.take_succ_eq_append_getElem h1, ht]
 simp [List.set_append_right, List.length_take, Nat.min_eq_left (Nat.le_of_lt h1)]
theorem fill {β : Type} {b : List β} (f : Nat -> List β -> Int -> Option (List β)) (hend : ∀ k out, f (k + 1) out (b.length : Int) = some out)
  (hstep : ∀ k out j (h : j < b.length), out.length = b.length -> f (k + 1) out (j : Int) = f k (out.set j b[j]) ((j + 1 : Nat) : Int)) {k : Nat} (hk : b.length < k) {out : List β} (ho : out.length = b.length) : f k out 0 = some b := by
 have := loop (fun k (s : List β × Nat) => f k s.1 (s.2 : Int)) (fun s => s.1.length = b.length /\ s.2 <= b.length /\ s.1.take s.2 = b.take s.2) (fun s => b.length - s.2) (fun o => o = some b) (fun k s hs => by
  obtain ⟨out, j⟩ := s
  obtain ⟨h1, h2, h3⟩ := hs
  simp only at h1 h2 h3 ⊢
  by_cases hj : j < b.length
  ·right
   exact ⟨(out.set j b[j], j + 1), ⟨by simp [h1], hj, Y2v hj (by omega) h3 rfl⟩, by simp only; omega, hstep k out j hj h1⟩
  ·left
   have : j = b.length := by omega
   subst this
   rw [hend, <- List.take_of_length_le (Nat.le_of_eq h1), h3, List.take_length]) k (out, 0) (by simpa using hk) ⟨ho, by simp, by simp⟩
 exact this
theorem Ye {n : Nat} (p : Nat -> Bool) (f : Nat -> Int -> Option Bool) (hend : ∀ k, f (k + 1) (n : Int) = some true) (hstep : ∀ k j, j < n -> f (k + 1) (j : Int) = if p j then f k ((j + 1 : Nat) : Int) else some false) {k : Nat} (hk : n < k) : f k 0 = some (decide (∀ j, j < n -> p j = true)) := by
 have := loop (fun k (j : Nat) => f k (j : Int)) (fun j => j <= n /\ ∀ i, i < j -> p i = true) (fun j => n - j) (fun o => o = some (decide (∀ j, j < n -> p j = true))) (fun k j hs => by
  obtain ⟨h1, h2⟩ := hs
  by_cases hj : j < n
  ·rw [hstep k j hj]
   cases hp : p j with
   | true =>
    right
    exact ⟨j + 1, ⟨hj, fun i hi => by rcases Nat.lt_or_eq_of_le (Nat.le_of_lt_succ hi) with h | h; exact h2 i h; rw [h]; exact hp⟩, by omega, by simp⟩
   | false =>
    left
    have : ¬ ∀ j, j < n -> p j = true := fun h => by have := h j hj; rw [hp] at this; simp at this
    simp [this]
  ·left
   have : j = n := by omega
   subst this
   rw [hend]
   simp only [Option.some.injEq]
   symm
   simpa using h2) k 0 (by simpa using hk) ⟨by omega, by omega⟩
 exact this
theorem Y7 {R : Type} {n : Nat} (p : Nat -> Bool) (no e : Option R) (f : Nat -> Int -> Option R) (hend : ∀ k, f (k + 1) (n : Int) = e) (hstep : ∀ k j, j < n -> f (k + 1) (j : Int) = if p j then f k ((j + 1 : Nat) : Int) else no) {k : Nat} (hk : n < k) : f k 0 = if ∀ j, j < n -> p j = true then e else no := by
 have := loop (fun k (j : Nat) => f k (j : Int)) (fun j => j <= n /\ ∀ i, i < j -> p i = true) (fun j => n - j) (fun o => o = if ∀ j, j < n -> p j = true then e else no) (fun k j hs => by
  obtain ⟨h1, h2⟩ := hs
  by_cases hj : j < n
  ·rw [hstep k j hj]
   cases hp : p j with
   | true =>
    right
    exact ⟨j + 1, ⟨hj, fun i hi => by rcases Nat.lt_or_eq_of_le (Nat.le_of_lt_succ hi) with h | h; exact h2 i h; rw [h]; exact hp⟩, by omega, by simp⟩
   | false =>
    left
    have : ¬ ∀ j, j < n -> p j = true := fun h => by have := h j hj; rw [hp] at this; simp at this
    simp [this]
  ·left
   have : j = n := by omega
   subst this
   rw [hend, if_pos h2]) k 0 (by simpa using hk) ⟨by omega, by omega⟩
 exact this
theorem first {n : Nat} (p : Nat -> Bool) (f : Nat -> Int -> Option Int) (hend : ∀ k, f (k + 1) (n : Int) = some (-1)) (hstep : ∀ k j, j < n -> f (k + 1) (j : Int) = if p j then some (j : Int) else f k ((j + 1 : Nat) : Int)) {k : Nat} (hk : n < k) :
  (∃ j, j < n /\ p j = true /\ (∀ i, i < j -> p i = false) /\ f k 0 = some (j : Int)) \/ ((∀ i, i < n -> p i = false) /\ f k 0 = some (-1)) := by
 have := loop (fun k (j : Nat) => f k (j : Int)) (fun j => j <= n /\ ∀ i, i < j -> p i = false) (fun j => n - j) (fun o => (∃ j, j < n /\ p j = true /\ (∀ i, i < j -> p i = false) /\ o = some (j : Int)) \/ ((∀ i, i < n -> p i = false) /\ o = some (-1))) (fun k j hs => by
  obtain ⟨h1, h2⟩ := hs
  by_cases hj : j < n
  ·rw [hstep k j hj]
   cases hp : p j with
   | true => left; left; exact ⟨j, hj, hp, h2, rfl⟩
   | false =>
    right
    exact ⟨j + 1, ⟨hj, fun i hi => by rcases Nat.lt_or_eq_of_le (Nat.le_of_lt_succ hi) with h | h; exact h2 i h; rw [h]; exact hp⟩, by omega, by simp⟩
  ·left; right
   have : j = n := by omega
   subst this
   exact ⟨h2, hend k⟩) k 0 (by simpa using hk) ⟨by omega, by omega⟩
 exact this
theorem Y9 {j : Nat} (h : 0 < j) (h2 : j < 4611686018427387904) : w64 ((j : Int) - 1) = ((j - 1 : Nat) : Int) := by
 rw [Y5 (by omega) (by omega)]; omega
theorem Yb {α : Type} {i : Int} {xs : List α} (h0 : 0 <= i) (h : i < xs.length) : inb i xs = true := by simp [inb, h0, h]
theorem Y4e {α : Type} {d : α} {i : Int} {xs : List α} (h0 : 0 <= i) (h : i < xs.length) : at_ d xs i = xs[i.toNat]'(by omega) := by
 unfold at_
 rw [List.getD_eq_getElem?_getD, List.getElem?_eq_getElem (by omega)]
 rfl
def in_int (x : Int) : Prop := IntKind.min .i64 <= x /\ x <= IntKind.max .i64
def in_str (x : ByteArray) : Prop := x.size <= 9223372036854775807
def s_str (x : ByteArray) : Nat := x.size
def b_str (x : ByteArray) : Prop := x.size <= 1048576
theorem Y58 {x : ByteArray} (h : s_str x <= 1048576) : b_str x := h
theorem bneB (a b : Bool) : (a != b) = !decide (a = b) := by cases a <;> cases b <;> rfl
theorem beqB (a b : Bool) : (a == b) = decide (a = b) := by cases a <;> cases b <;> rfl
theorem Y8 {α : Type} [DecidableEq α] {a b : List α} (h : a.length = b.length) : (a = b) ↔ ∀ j, j < a.length -> (decide (a[j]? = b[j]?)) = true := by
 constructor
 ·rintro rfl j _; simp
 ·intro h2
  apply List.ext_getElem?
  intro j
  by_cases hj : j < a.length
  ·simpa using h2 j hj
  ·rw [List.getElem?_eq_none (by omega), List.getElem?_eq_none (by omega)]
def sub1 (l : Int) (s : Nat) : Int := if (s : Int) <= l then l - s else -1
theorem Yf {l : Int} {s : Nat} (h : (s : Int) <= l) : sub1 l s = l - s := if_pos h
theorem Ya {l : Int} {s : Nat} (h : ¬ (s : Int) <= l) : sub1 l s = -1 := if_neg h
def sumL {α : Type} (s : α -> Nat) (a : List α) : Nat := a.length + (a.map s).sum
theorem Y1y {α : Type} {s : α -> Nat} {a : List α} {m : Nat} (h : sumL s a <= m) : a.length <= m := Nat.le_trans (Nat.le_add_right _ _) h
theorem Y3x {α : Type} {s : α -> Nat} : ∀ {a : List α} {y : α}, y ∈ a -> s y <= (a.map s).sum
 | [], y, h => by simp at h
 | x :: a, y, h => by
  rcases List.mem_cons.1 h with rfl | h
  ·simp
  ·have := Y3x (s := s) h
   simp only [List.map_cons, List.sum_cons]; omega
theorem Y1z {α : Type} {s : α -> Nat} {a : List α} {y : α} (h : y ∈ a) : s y <= sumL s a := Nat.le_trans (Y3x h) (Nat.le_add_left _ _)
theorem szL {α : Type} {a : List α} {s : α -> Nat} {g : α -> Int -> Option Int} {f : Nat -> Int -> Int -> Option Int} (hg : ∀ x ∈ a, ∀ l : Int, 0 <= l -> l <= 1048576 -> g x l = some (sub1 l (s x)))
  (hend : ∀ k l, f (k + 1) l (a.length : Int) = some l) (hstep : ∀ k l j (h : j < a.length), f (k + 1) l (j : Int) = (g a[j] l).bind fun r => bif decide (r < 0) then some (-1) else f k r ((j + 1 : Nat) : Int))
  {k : Nat} (hk : a.length < k) {l : Int} (h0 : 0 <= l) (h1 : l <= 1048576) : f k l 0 = some (sub1 l ((a.map s).sum)) := by
 have := loop (fun k (q : Int × Nat) => f k q.1 (q.2 : Int)) (fun q => 0 <= q.1 /\ q.1 <= 1048576 /\ q.2 <= a.length /\ sub1 q.1 (((a.drop q.2).map s).sum) = sub1 l ((a.map s).sum)) (fun q => a.length - q.2) (fun o => o = some (sub1 l ((a.map s).sum))) (fun k q hs => by
  obtain ⟨v, j⟩ := q
  obtain ⟨g0, g1, g2, g3⟩ := hs
  simp only at g0 g1 g2 g3 ⊢
  by_cases hj : j < a.length
  ·rw [hstep k v j hj, hg a[j] (List.getElem_mem hj) v g0 g1, Option.bind_some]
   rw [List.drop_eq_getElem_cons hj, List.map_cons, List.sum_cons] at g3
   by_cases hc : (s a[j] : Int) <= v
   ·right
    refine ⟨(v - s a[j], j + 1), ⟨by simp only; omega, by simp only; omega, hj, ?_⟩, by simp only; omega, ?_⟩
    ·rw [<- g3]; simp only [sub1]; split <;> split <;> omega
    ·rw [Yf hc, decide_eq_false (by omega), cond_false]
   ·left
    rw [Ya hc, decide_eq_true (by omega), cond_true]
    rw [<- g3, Ya (by omega)]
  ·left
   have : j = a.length := by omega
   subst this
   rw [hend]
   rw [List.drop_length] at g3
   rw [<- g3]; simp [sub1, g0]) k (l, 0) (by simpa using hk) ⟨h0, h1, by simp, by simp⟩
 exact this
def mkL {α : Type} (c : α -> Nat) (mv : α -> Int -> α) : List α -> Int -> List α
 | [], _ => []
 | x :: r, k => mv x k :: mkL c mv r (k + (c x : Int))
def costL {α : Type} (c : α -> Nat) (a : List α) : Nat := (a.map c).sum
theorem Y16 {α : Type} {c : α -> Nat} (h : ∀ x, c x <= 8) : ∀ a : List α, costL c a <= 8 * a.length
 | [] => by simp [costL]
 | x :: a => by
  have h1 := h x
  have h2 := Y16 h a
  simp only [costL, List.map_cons, List.sum_cons, List.length_cons] at h2 ⊢; omega
theorem Yv {α : Type} {c s : α -> Nat} (h : ∀ x, c x <= 8 + 8 * s x) : ∀ a : List α, costL c a <= 8 * sumL s a
 | [] => by simp [costL, sumL]
 | x :: a => by
  have h1 := h x
  have h2 := Yv h a
  simp only [costL, sumL, List.map_cons, List.sum_cons, List.length_cons] at h2 ⊢; omega
theorem Y29 {α : Type} (c : α -> Nat) (mv : α -> Int -> α) : ∀ (a : List α) (k : Int), (mkL c mv a k).length = a.length
 | [], k => rfl
 | x :: a, k => by simp [mkL, Y29 c mv a]
theorem Yp {α : Type} {xs : List α} {j : Nat} {v : α} {i : Int} : inb i (xs.set j v) = inb i xs := by simp [inb]
theorem Y10 {α : Type} {d : α} {xs : List α} {j : Nat} {v : α} (h : j < xs.length) : at_ d (xs.set j v) (j : Int) = v := by simp [at_, h]
theorem Yq {α : Type} {xs : List α} {j : Nat} {a b : α} : (xs.set j a).set j b = xs.set j b := by simp
theorem Yn {x : Int} (h0 : 0 <= x) (h1 : x <= 4611686018427387904) : w64 x = x := Y5 (by omega) (by omega)
theorem Yk {x : Int} (h : 0 <= x) : decide (x < 0) = false := decide_eq_false (by omega)
theorem Y1o {α : Type} {c : α -> Nat} {mv : α -> Int -> α} {P : α -> Prop} {f : Nat -> List α -> Int -> Int -> Option (List α × Int)}
  (hend : ∀ k a2 k2 (j : Nat), j = a2.length -> f (k + 1) a2 k2 (j : Int) = some (a2, k2))
  (hstep : ∀ k a2 k2 (j : Nat) (h : j < a2.length), P a2[j] -> 0 <= k2 -> k2 + (c a2[j] : Int) <= 4611686018427387904 -> j < 1048576 -> f (k + 1) a2 k2 (j : Int) = f k (a2.set j (mv a2[j] k2)) (k2 + (c a2[j] : Int)) ((j + 1 : Nat) : Int))
  {a : List α} (hP : ∀ y ∈ a, P y) {k0 : Int} (h0 : 0 <= k0) (h1 : k0 + (costL c a : Int) <= 4611686018427387904) (hl : a.length <= 1048576) {k : Nat} (hk : a.length < k) : f k a k0 0 = some (mkL c mv a k0, k0 + (costL c a : Int)) := by
 have := loop (fun k (q : List α × Int × Nat) => f k q.1 q.2.1 (q.2.2 : Int)) (fun q => ∃ done, q.1 = done ++ a.drop q.2.2 /\ done.length = q.2.2 /\ q.2.2 <= a.length /\ done ++ mkL c mv (a.drop q.2.2) q.2.1 = mkL c mv a k0 /\ q.2.1 + (costL c (a.drop q.2.2) : Int) = k0 + (costL c a : Int) /\ 0 <= q.2.1) (fun q => a.length - q.2.2) (fun o => o = some (mkL c mv a k0, k0 + (costL c a : Int))) (fun k q hs => by
  obtain ⟨a2, k2, j⟩ := q
  obtain ⟨done, g1, g2, g3, g4, g5, g6⟩ := hs
  simp only at g1 g2 g3 g4 g5 g6 ⊢
  by_cases hj : j < a.length
  ·right
   rw [List.drop_eq_getElem_cons hj] at g1 g4 g5
   have hj2 : j < a2.length := by rw [g1]; simp; omega
   have ha2 : a2[j] = a[j] := by
    have : a2[j]? = some a[j] := by rw [g1, List.getElem?_append_right (by omega), g2]; simp
    rw [List.getElem?_eq_getElem hj2] at this
    exact Option.some.inj this
   simp only [costL, List.map_cons, List.sum_cons, Int.natCast_add] at g5
   have hcost : 0 <= (((a.drop (j + 1)).map c).sum : Int) := by omega
   refine ⟨(a2.set j (mv a2[j] k2), k2 + (c a2[j] : Int), j + 1), ⟨done ++ [mv a[j] k2], ?_, by simp [g2], hj, ?_, ?_, by simp only; omega⟩, by simp only; omega, ?_⟩
   ·simp only
    rw [ha2, g1, List.set_append_right _ _ (by omega), g2, Nat.sub_self, List.set_cons_zero, List.append_assoc]
    rfl
   ·simp only [ha2]
    rw [<- g4]; simp [mkL]
   ·rw [ha2]; simp only [costL] at g5 ⊢; omega
   ·exact hstep k a2 k2 j hj2 (by rw [ha2]; exact hP _ (List.getElem_mem hj)) g6 (by rw [ha2]; simp only [costL] at g5 h1 ⊢; omega) (by omega)
  ·left
   have hja : j = a.length := by omega
   subst hja
   rw [List.drop_length] at g1 g4 g5
   rw [hend k a2 k2 a.length (by rw [g1]; simp [g2])]
   simp only [mkL, List.append_nil] at g1 g4
   simp only [costL, List.map_nil, List.sum_nil] at g5
   rw [g1, g4]
   simp only [costL] at g5 ⊢
   congr 2; omega) k (a, k0, 0) (by simpa using hk) ⟨[], by simp, rfl, by simp, by simp, by simp, h0⟩
 exact this
theorem Y5q {α : Type} {c : α -> Nat} {mv : α -> Int -> α} {P : α -> Prop} {f : Nat -> List α -> Int -> Int -> Option Int}
  (hend : ∀ k a2 k2 (j : Nat), j = a2.length -> f (k + 1) a2 k2 (j : Int) = some k2)
  (hstep : ∀ k a2 k2 (j : Nat) (y : α) (h : j < a2.length), P y -> 0 <= k2 -> k2 + (c y : Int) <= 4611686018427387904 -> j < 1048576 -> a2[j] = mv y k2 -> f (k + 1) a2 k2 (j : Int) = f k a2 (k2 + (c y : Int)) ((j + 1 : Nat) : Int))
  {a : List α} (hP : ∀ y ∈ a, P y) {k0 : Int} (h0 : 0 <= k0) (h1 : k0 + (costL c a : Int) <= 4611686018427387904) (hl : a.length <= 1048576) {k : Nat} (hk : a.length < k) : f k (mkL c mv a k0) k0 0 = some (k0 + (costL c a : Int)) := by
 have hlen := Y29 c mv a k0
 have := loop (fun k (q : Int × Nat) => f k (mkL c mv a k0) q.1 (q.2 : Int)) (fun q => q.2 <= a.length /\ (mkL c mv a k0).drop q.2 = mkL c mv (a.drop q.2) q.1 /\ q.1 + (costL c (a.drop q.2) : Int) = k0 + (costL c a : Int) /\ 0 <= q.1) (fun q => a.length - q.2) (fun o => o = some (k0 + (costL c a : Int))) (fun k q hs => by
  obtain ⟨k2, j⟩ := q
  obtain ⟨g3, g4, g5, g6⟩ := hs
  simp only at g3 g4 g5 g6 ⊢
  by_cases hj : j < a.length
  ·right
   have hj2 : j < (mkL c mv a k0).length := by omega
   rw [List.drop_eq_getElem_cons hj2, List.drop_eq_getElem_cons hj] at g4
   simp only [mkL, List.cons.injEq] at g4
   rw [List.drop_eq_getElem_cons hj] at g5
   simp only [costL, List.map_cons, List.sum_cons, Int.natCast_add] at g5
   have hcost : 0 <= (((a.drop (j + 1)).map c).sum : Int) := by omega
   refine ⟨(k2 + (c a[j] : Int), j + 1), ⟨hj, g4.2, ?_, by simp only; omega⟩, by simp only; omega, ?_⟩
   ·simp only [costL] at g5 ⊢; omega
   ·exact hstep k _ k2 j a[j] hj2 (hP _ (List.getElem_mem hj)) g6 (by simp only [costL] at g5 h1 ⊢; omega) (by omega) g4.1
  ·left
   have hja : j = a.length := by omega
   subst hja
   rw [List.drop_length] at g5
   rw [hend k _ k2 a.length hlen.symm]
   simp only [costL, List.map_nil, List.sum_nil] at g5 ⊢
   congr 1; omega) k (k0, 0) (by simpa using hk) ⟨by simp, by simp, by simp, h0⟩
 exact this
theorem ofB1 (x : Int) : (ofBytes [x]).size = 1 := rfl
theorem Y1w {N : Nat} : ∀ (m : Nat) (k : Int) (out : ByteArray) (f : Nat), 0 <= k -> k <= 9223372036854775807 -> k < 10 ^ m -> out.size + m <= 1000 -> m < f -> ∃ s, Z4q N f k out = some s
 | 0, k, out, f, h0, hbig, h1, h2, h3 => by
  obtain ⟨f, rfl⟩ : ∃ f', f = f' + 1 := ⟨f - 1, by omega⟩
  have hk : ¬ k > 0 := by
   have : k < 1 := by simpa using h1
   omega
  simp only [Z4q, Z67, hk, decide_false, cond_false]
  have : catOk (⟨#[109]⟩ : ByteArray) out = true := decide_eq_true (by show 1 + out.size <= _; omega)
  rw [this, grd_true]
  exact ⟨_, rfl⟩
 | m + 1, k, out, f, h0, hbig, h1, h2, h3 => by
  obtain ⟨f, rfl⟩ : ∃ f', f = f' + 1 := ⟨f - 1, by omega⟩
  by_cases hk : k > 0
  ·simp only [Z4q, Z67, hk, decide_true, cond_true]
   have hc : ∀ x : Int, catOk (ofBytes [x]) out = true := fun x => decide_eq_true (by rw [ofB1]; omega)
   rw [Yd (by decide), hc, grd_true, Yd (by decide)]
   have hd0 : 0 <= k.tdiv 10 := Int.tdiv_nonneg h0 (by decide)
   have hp : (10 : Int) ^ (m + 1) = 10 ^ m * 10 := Int.pow_succ _ _
   have hd1 : k.tdiv 10 < 10 ^ m := by
    rw [Int.tdiv_eq_ediv_of_nonneg h0]
    have := Int.ediv_lt_of_lt_mul (a := k) (b := 10 ^ m) (c := 10) (by decide) (by rw [<- hp]; exact h1)
    exact this
   have hle : k.tdiv 10 <= k := by rw [Int.tdiv_eq_ediv_of_nonneg h0]; exact Int.ediv_le_self _ h0
   rw [Y5 (by omega) (by omega)]
   exact Y1w m _ _ f hd0 (by omega) hd1 (by rw [ByteArray.size_append, ofB1]; omega) (by omega)
  ·simp only [Z4q, Z67, hk, decide_false, cond_false]
   have : catOk (⟨#[109]⟩ : ByteArray) out = true := decide_eq_true (by show 1 + out.size <= _; omega)
   rw [this, grd_true]
   exact ⟨_, rfl⟩
def mkTx (N : Nat) (k : Int) : ByteArray := (Z3r N k).getD ⟨#[]⟩
def MtOk (N : Nat) : Prop := ∀ k : Int, 0 <= k -> k <= 4611686018427387904 -> Z3r N k = some (mkTx N k)
theorem Y65 (h : MtOk N) {k : Int} (h0 : 0 <= k) (h1 : k <= 4611686018427387904) : Z3r N k = some (mkTx N k) := h k h0 h1
theorem mtOk (hN : 1048576 < N) : MtOk N := by
 intro k h0 h1
 have : ∃ s, Z3r N k = some s := by
  unfold Z3r Z8v
  by_cases hk : k <= 0
  ·exact ⟨_, by rw [decide_eq_true hk]; rfl⟩
  ·rw [decide_eq_false hk, cond_false]
   exact Y1w 19 k _ N h0 (by omega) (by omega) (by decide) (by omega)
 obtain ⟨s, hs⟩ := this
 rw [mkTx, hs]; rfl
abbrev T_IntS := List Int
def in_IntS (a : T_IntS) : Prop := a.length <= 9223372036854775807 /\ ∀ y ∈ a, in_int y
def s_IntS (a : T_IntS) : Nat := a.length
def b_IntS (a : T_IntS) : Prop := a.length <= 1048576
theorem Y2k {a : T_IntS} (h : s_IntS a <= 1048576) : b_IntS a := h
theorem Y59 {a : T_IntS} (h : b_IntS a) (hN : 1048576 < N) : Z7j N a = some a := by
 have hl : a.length <= 1048576 := h
 unfold Z7j Z9e
 rw [Yh (by omega), grd_true]
 refine fill (b := a) (fun k out i => Z6t N k a out i) (fun k out => by simp [Z6t, Z83]) (fun k out j h1 h3 => ?_) (by omega) (by simp)
 have h2 : j < out.length := by omega
 have hj : (j : Int) < (a.length : Int) := by omega
 simp [Z6t, Z83, hj, Y1 h1, Y1 h2, Y2 h1, Y0 (j := j) (by omega)]
theorem Y33 {a b : T_IntS} (h : b_IntS a) (hN : 1048576 < N) : Z60 N a b = some (decide (a = b)) := by
 have hla : a.length <= 1048576 := h
 unfold Z60 Z9o
 by_cases hl : a.length = b.length
 ·have h0 : ((a.length : Int) != (b.length : Int)) = false := by simp [hl]
  rw [h0, cond_false, decide_eq_decide.2 (Y8 hl)]
  refine Ye (n := a.length) (fun j => decide (a[j]? = b[j]?)) (fun k i => Z6u N k a b i) (fun k => by simp [Z6u, Z8b]) (fun k j hj => ?_) (by omega)
  have h1 : (j : Int) < (a.length : Int) := by omega
  have h2 : j < b.length := by omega
  simp only [Z6u, Z8b, h1, decide_true, cond_true, Y1 hj, Y1 h2, grd_true, Y2 hj, Y2 h2, bneI, Yj, Y0 (j := j) (by omega), List.getElem?_eq_getElem hj, List.getElem?_eq_getElem h2, Option.some.injEq]
 ·have h0 : ((a.length : Int) != (b.length : Int)) = true := by simp; omega
  rw [h0, cond_true]
  have : a ≠ b := fun h => hl (by rw [h])
  simp [this]
theorem Y5a {a : T_IntS} {l : Int} (h : in_IntS a) (h0 : 0 <= l) (h1 : l <= 1048576) (hN : 1048576 < N) : Z7i N a l = some (sub1 l (s_IntS a)) := by
 have := h.1
 unfold Z7i s_IntS sub1
 rw [Y5 (by omega) (by omega)]
 by_cases h : (a.length : Int) <= l
 ·rw [if_pos h, decide_eq_false (by omega)]; rfl
 ·rw [if_neg h, decide_eq_true (by omega)]; rfl
def me_IntS (N : Nat) (x : Int) (k : Int) : Int := k
def ce_IntS (x : Int) : Nat := 1
def mk_IntS (N : Nat) (a : T_IntS) (k : Int) : T_IntS := mkL ce_IntS (me_IntS N) a k
def c_IntS (a : T_IntS) : Nat := costL ce_IntS a
theorem Y34 (a : T_IntS) : c_IntS a <= 8 * s_IntS a := Y16 (c := ce_IntS) (fun x => by show 1 <= 8; omega) a
theorem Y35 {a : T_IntS} {k : Int} (h : b_IntS a) (h0 : 0 <= k) (h1 : k + (c_IntS a : Int) <= 4611686018427387904) (hN : 1048576 < N) : Z4i N a k = some (mk_IntS N a k, k + (c_IntS a : Int)) := by
 have hla : a.length <= 1048576 := h
 unfold Z4i Z8w
 refine Y1o (P := fun y => True) (f := fun k a2 k2 i => Z5t N k a2 k2 i) (fun k a2 k2 j hj => by subst hj; simp [Z5t, Z7g]) (fun k a2 k2 j h1 hy h0 hc hl => ?_) (fun _ _ => trivial) h0 h1 (by omega) (by omega)
 have h2 : (j : Int) < (a2.length : Int) := by omega
 simp only [ce_IntS, Int.natCast_add, Int.cast_ofNat_Int, Int.natCast_one] at hc
 simp (disch := first | assumption | omega) only [Z5t, Z7g, h2, decide_true, cond_true, Y1 h1, Yp, grd_true, Yd, letv_eq, Y2 h1, Y10, Yq, Int.toNat_natCast, Yn, Y0, Option.bind_some, Option.bind_some]
 simp only [ce_IntS, me_IntS, Int.natCast_add, Int.cast_ofNat_Int, Int.natCast_one, Int.add_assoc]
theorem Y5b {a : T_IntS} {k : Int} (h : b_IntS a) (h0 : 0 <= k) (h1 : k + (c_IntS a : Int) <= 4611686018427387904) (hN : 1048576 < N) : Z6n N (mk_IntS N a k) k = some (k + (c_IntS a : Int)) := by
 have hla : a.length <= 1048576 := h
 unfold Z6n Z8y
 refine Y5q (P := fun y => True) (f := fun k a2 k2 i => Z5x N k a2 k2 i) (fun k a2 k2 j hj => by subst hj; simp [Z5x, Z7h]) (fun k a2 k2 j y h1 hy h0 hc hl he => ?_) (fun _ _ => trivial) h0 h1 (by omega) (by omega)
 have h2 : (j : Int) < (a2.length : Int) := by omega
 simp only [ce_IntS, Int.natCast_add, Int.cast_ofNat_Int, Int.natCast_one] at hc
 simp only [Z5x, Z7h, h2, decide_true, cond_true, Y1 h1, grd_true, Y2 h1, he, me_IntS]
 simp (disch := first | assumption | omega) only [bneI, bneB, beqB, decide_true, Bool.not_true, cond_false, Yn, Y0, Option.bind_some, Yk, Yd, Int.add_assoc, Option.bind_some]
 simp only [ce_IntS, Int.natCast_add, Int.cast_ofNat_Int, Int.natCast_one, Int.add_assoc]
abbrev T_IntSS := List T_IntS
def s_IntSS (a : T_IntSS) : Nat := sumL s_IntS a
def b_IntSS (a : T_IntSS) : Prop := a.length <= 1048576 /\ ∀ y ∈ a, b_IntS y
theorem Y48 {a : T_IntSS} (h : s_IntSS a <= 1048576) : b_IntSS a := ⟨(Y1y h), fun y hy => Y2k (Nat.le_trans (Y1z hy) h)⟩
theorem Y4f {a b : T_IntSS} (h : b_IntSS a) (hN : 1048576 < N) : Z5c N a b = some (decide (a = b)) := by
 have hla : a.length <= 1048576 := h.1
 unfold Z5c Z9a
 by_cases hl : a.length = b.length
 ·have h0 : ((a.length : Int) != (b.length : Int)) = false := by simp [hl]
  rw [h0, cond_false, decide_eq_decide.2 (Y8 hl)]
  refine Ye (n := a.length) (fun j => decide (a[j]? = b[j]?)) (fun k i => Z6h N k a b i) (fun k => by simp [Z6h, Z7z]) (fun k j hj => ?_) (by omega)
  have h1 : (j : Int) < (a.length : Int) := by omega
  have h2 : j < b.length := by omega
  simp only [Z6h, Z7z, h1, decide_true, cond_true, Y1 hj, Y1 h2, grd_true, Y2 hj, Y2 h2, Y33 (h.2 _ (List.getElem_mem hj)) hN, Option.bind_some, Yj, Y0 (j := j) (by omega), List.getElem?_eq_getElem hj, List.getElem?_eq_getElem h2, Option.some.injEq]
 ·have h0 : ((a.length : Int) != (b.length : Int)) = true := by simp; omega
  rw [h0, cond_true]
  have : a ≠ b := fun h => hl (by rw [h])
  simp [this]
def me_IntSS (N : Nat) (x : T_IntS) (k : Int) : T_IntS := mk_IntS N x k
def ce_IntSS (x : T_IntS) : Nat := c_IntS x
def mk_IntSS (N : Nat) (a : T_IntSS) (k : Int) : T_IntSS := mkL ce_IntSS (me_IntSS N) a k
def c_IntSS (a : T_IntSS) : Nat := costL ce_IntSS a
theorem Y4g (a : T_IntSS) : c_IntSS a <= 8 * s_IntSS a := Yv (c := ce_IntSS) (fun x => by have := Y34 x; show c_IntS x <= 8 + 8 * s_IntS x; omega) a
theorem Y4h {a : T_IntSS} {k : Int} (h : b_IntSS a) (h0 : 0 <= k) (h1 : k + (c_IntSS a : Int) <= 4611686018427387904) (hN : 1048576 < N) : Z5w N a k = some (mk_IntSS N a k, k + (c_IntSS a : Int)) := by
 have hla : a.length <= 1048576 := h.1
 unfold Z5w Z8r
 refine Y1o (P := fun y => b_IntS y) (f := fun k a2 k2 i => Z5h N k a2 k2 i) (fun k a2 k2 j hj => by subst hj; simp [Z5h, Z77]) (fun k a2 k2 j h1 hy h0 hc hl => ?_) h.2 h0 h1 (by omega) (by omega)
 have h2 : (j : Int) < (a2.length : Int) := by omega
 simp only [ce_IntSS, Int.natCast_add, Int.cast_ofNat_Int, Int.natCast_one] at hc
 simp (disch := first | assumption | omega) only [Z5h, Z77, h2, decide_true, cond_true, Y1 h1, Yp, grd_true, Yd, letv_eq, Y2 h1, Y10, Yq, Int.toNat_natCast, Yn, Y0, Option.bind_some, Y35]
 simp only [ce_IntSS, me_IntSS, Int.natCast_add, Int.cast_ofNat_Int, Int.natCast_one, Int.add_assoc]
theorem Y4i {a : T_IntSS} {k : Int} (h : b_IntSS a) (h0 : 0 <= k) (h1 : k + (c_IntSS a : Int) <= 4611686018427387904) (hN : 1048576 < N) : Z4t N (mk_IntSS N a k) k = some (k + (c_IntSS a : Int)) := by
 have hla : a.length <= 1048576 := h.1
 unfold Z4t Z8s
 refine Y5q (P := fun y => b_IntS y) (f := fun k a2 k2 i => Z5i N k a2 k2 i) (fun k a2 k2 j hj => by subst hj; simp [Z5i, Z78]) (fun k a2 k2 j y h1 hy h0 hc hl he => ?_) h.2 h0 h1 (by omega) (by omega)
 have h2 : (j : Int) < (a2.length : Int) := by omega
 simp only [ce_IntSS, Int.natCast_add, Int.cast_ofNat_Int, Int.natCast_one] at hc
 simp only [Z5i, Z78, h2, decide_true, cond_true, Y1 h1, grd_true, Y2 h1, he, me_IntSS]
 simp (disch := first | assumption | omega) only [bneI, bneB, beqB, decide_true, Bool.not_true, cond_false, Yn, Y0, Option.bind_some, Yk, Yd, Int.add_assoc, Y5b]
 simp only [ce_IntSS, Int.natCast_add, Int.cast_ofNat_Int, Int.natCast_one, Int.add_assoc]
abbrev T_Relation := ByteArray × Int × Int
def in_Relation (x : T_Relation) : Prop := in_str x.1 /\ in_int x.2.1 /\ in_int x.2.2
def s_Relation (x : T_Relation) : Nat := s_str x.1
def b_Relation (x : T_Relation) : Prop := b_str x.1
theorem Y2w {x : T_Relation} (h : s_Relation x <= 1048576) : b_Relation x := Y58 (by unfold s_Relation at h; omega)
theorem Y36 {x : T_Relation} (h : b_Relation x) (hN : 1048576 < N) : Z51 N x = some x := by
 simp [Z51]
theorem Y37 {x y : T_Relation} (h : b_Relation x) (hN : 1048576 < N) : Z5d N x y = some (decide (x = y)) := by
 simp only [Z5d, bneI, bneB, beqB, Y1f, Option.bind_some]
 obtain ⟨x0, x1, x2⟩ := x
 obtain ⟨y0, y1, y2⟩ := y
 simp only [Prod.mk.injEq]
 by_cases e0 : x0 = y0 <;>
 by_cases e1 : x1 = y1 <;>
 by_cases e2 : x2 = y2 <;> simp [e0, e1, e2]
theorem Y38 {x : T_Relation} {l : Int} (h : in_Relation x) (h0 : 0 <= l) (h1 : l <= 1048576) (hN : 1048576 < N) : Z3v N x l = some (sub1 l (s_Relation x)) := by
 have : x.1.size <= 9223372036854775807 := h.1
 unfold Z3v s_Relation s_str sub1
 rw [Y5 (by omega) (by omega)]
 by_cases h : (x.1.size : Int) <= l
 ·rw [if_pos h, decide_eq_false (by omega)]; rfl
 ·rw [if_neg h, decide_eq_true (by omega)]; rfl
abbrev T_RelationS := List T_Relation
def in_RelationS (a : T_RelationS) : Prop := a.length <= 9223372036854775807 /\ ∀ y ∈ a, in_Relation y
def s_RelationS (a : T_RelationS) : Nat := sumL s_Relation a
def b_RelationS (a : T_RelationS) : Prop := a.length <= 1048576 /\ ∀ y ∈ a, b_Relation y
theorem Y2f {a : T_RelationS} (h : s_RelationS a <= 1048576) : b_RelationS a := ⟨(Y1y h), fun y hy => Y2w (Nat.le_trans (Y1z hy) h)⟩
theorem Y2x {a : T_RelationS} (h : b_RelationS a) (hN : 1048576 < N) : Z4k N a = some a := by
 have hl : a.length <= 1048576 := h.1
 unfold Z4k Z8h
 rw [Yh (by omega), grd_true]
 refine fill (b := a) (fun k out i => Z44 N k a out i) (fun k out => by simp [Z44, Z6a]) (fun k out j h1 h3 => ?_) (by omega) (by simp)
 have h2 : j < out.length := by omega
 have hj : (j : Int) < (a.length : Int) := by omega
 simp [Z44, Z6a, hj, Y1 h1, Y1 h2, Y2 h1, Y36 (h.2 _ (List.getElem_mem h1)) hN, Y0 (j := j) (by omega)]
theorem Y2y {a b : T_RelationS} (h : b_RelationS a) (hN : 1048576 < N) : Z4p N a b = some (decide (a = b)) := by
 have hla : a.length <= 1048576 := h.1
 unfold Z4p Z8l
 by_cases hl : a.length = b.length
 ·have h0 : ((a.length : Int) != (b.length : Int)) = false := by simp [hl]
  rw [h0, cond_false, decide_eq_decide.2 (Y8 hl)]
  refine Ye (n := a.length) (fun j => decide (a[j]? = b[j]?)) (fun k i => Z4a N k a b i) (fun k => by simp [Z4a, Z6i]) (fun k j hj => ?_) (by omega)
  have h1 : (j : Int) < (a.length : Int) := by omega
  have h2 : j < b.length := by omega
  simp only [Z4a, Z6i, h1, decide_true, cond_true, Y1 hj, Y1 h2, grd_true, Y2 hj, Y2 h2, Y37 (h.2 _ (List.getElem_mem hj)) hN, Option.bind_some, Yj, Y0 (j := j) (by omega), List.getElem?_eq_getElem hj, List.getElem?_eq_getElem h2, Option.some.injEq]
 ·have h0 : ((a.length : Int) != (b.length : Int)) = true := by simp; omega
  rw [h0, cond_true]
  have : a ≠ b := fun h => hl (by rw [h])
  simp [this]
theorem Y2z {a : T_RelationS} {l : Int} (h : in_RelationS a) (h0 : 0 <= l) (h1 : l <= 1048576) (hN : 1048576 < N) : Z4j N a l = some (sub1 l (s_RelationS a)) := by
 have hlen := h.1
 unfold Z4j Z8g
 rw [Y5 (by omega) (by omega)]
 by_cases hc : (a.length : Int) <= l
 ·rw [decide_eq_false (by omega), cond_false]
  rw [szL (a := a) (s := s_Relation) (g := fun x l => Z3v N x l) (f := fun k l i => Z43 N k a l i) (fun x hx l h0 h1 => Y38 (h.2 x hx) h0 h1 hN) (fun k l => by simp [Z43, Z68]) (fun k l j hj => by
    have h2 : (j : Int) < (a.length : Int) := by omega
    simp only [Z43, Z68, h2, decide_true, cond_true, Y1 hj, grd_true, Y2 hj, Y0 (j := j) (by omega)]) (by omega) (by omega) (by omega)]
  unfold s_RelationS sumL sub1
  congr 1
  split <;> split <;> omega
 ·rw [decide_eq_true (by omega), cond_true]
  unfold s_RelationS sumL sub1
  rw [if_neg (by omega)]
def me_RelationS (N : Nat) (x : T_Relation) (k : Int) : T_Relation := (mkTx N (k), (k + 1), (k + 1 + 1))
def ce_RelationS (x : T_Relation) : Nat := 1 + 1 + 1
def mk_RelationS (N : Nat) (a : T_RelationS) (k : Int) : T_RelationS := mkL ce_RelationS (me_RelationS N) a k
def c_RelationS (a : T_RelationS) : Nat := costL ce_RelationS a
theorem Y30 (a : T_RelationS) : c_RelationS a <= 8 * s_RelationS a := Yv (c := ce_RelationS) (fun x => by unfold ce_RelationS s_Relation; omega) a
theorem Y31 (hm : MtOk N) {a : T_RelationS} {k : Int} (h : b_RelationS a) (h0 : 0 <= k) (h1 : k + (c_RelationS a : Int) <= 4611686018427387904) (hN : 1048576 < N) : Z3p N a k = some (mk_RelationS N a k, k + (c_RelationS a : Int)) := by
 have hla : a.length <= 1048576 := h.1
 unfold Z3p Z8c
 refine Y1o (P := fun y => b_Relation y) (f := fun k a2 k2 i => Z3k N k a2 k2 i) (fun k a2 k2 j hj => by subst hj; simp [Z3k, Z5p]) (fun k a2 k2 j h1 hy h0 hc hl => ?_) h.2 h0 h1 (by omega) (by omega)
 have h2 : (j : Int) < (a2.length : Int) := by omega
 simp only [ce_RelationS, Int.natCast_add, Int.cast_ofNat_Int, Int.natCast_one] at hc
 simp (disch := first | assumption | omega) only [Z3k, Z5p, h2, decide_true, cond_true, Y1 h1, Yp, grd_true, Yd, letv_eq, Y2 h1, Y10, Yq, Int.toNat_natCast, Yn, Y0, Option.bind_some, Y65 hm, Option.bind_some]
 simp only [ce_RelationS, me_RelationS, Int.natCast_add, Int.cast_ofNat_Int, Int.natCast_one, Int.add_assoc]
abbrev T_Fact := Int × List Int
def in_Fact (x : T_Fact) : Prop := in_int x.1 /\ in_IntS x.2
def s_Fact (x : T_Fact) : Nat := s_IntS x.2
def b_Fact (x : T_Fact) : Prop := b_IntS x.2
theorem Y4j {x : T_Fact} (h : s_Fact x <= 1048576) : b_Fact x := Y2k (by unfold s_Fact at h; omega)
theorem Y5c {x : T_Fact} (h : b_Fact x) (hN : 1048576 < N) : Z7k N x = some x := by
 simp [Z7k, Y59 h hN]
theorem Y5d {x y : T_Fact} (h : b_Fact x) (hN : 1048576 < N) : Z7s N x y = some (decide (x = y)) := by
 simp only [Z7s, bneI, bneB, beqB, Y1f, Y33 h hN, Option.bind_some]
 obtain ⟨x0, x1⟩ := x
 obtain ⟨y0, y1⟩ := y
 simp only [Prod.mk.injEq]
 by_cases e0 : x0 = y0 <;>
 by_cases e1 : x1 = y1 <;> simp [e0, e1]
theorem Y5e {x : T_Fact} {l : Int} (h : in_Fact x) (h0 : 0 <= l) (h1 : l <= 1048576) (hN : 1048576 < N) : Z6s N x l = some (sub1 l (s_Fact x)) := by
 unfold Z6s s_Fact
 rw [Y5a (l := l) h.2 (by omega) (by omega) hN, Option.bind_some]
 unfold sub1
 split
 ·rw [decide_eq_false (by omega)]; rfl
 ·rfl
abbrev T_FactS := List T_Fact
def in_FactS (a : T_FactS) : Prop := a.length <= 9223372036854775807 /\ ∀ y ∈ a, in_Fact y
def s_FactS (a : T_FactS) : Nat := sumL s_Fact a
def b_FactS (a : T_FactS) : Prop := a.length <= 1048576 /\ ∀ y ∈ a, b_Fact y
theorem Y49 {a : T_FactS} (h : s_FactS a <= 1048576) : b_FactS a := ⟨(Y1y h), fun y hy => Y4j (Nat.le_trans (Y1z hy) h)⟩
theorem Y4k {a : T_FactS} (h : b_FactS a) (hN : 1048576 < N) : Z6w N a = some a := by
 have hl : a.length <= 1048576 := h.1
 unfold Z6w Z96
 rw [Yh (by omega), grd_true]
 refine fill (b := a) (fun k out i => Z6b N k a out i) (fun k out => by simp [Z6b, Z7w]) (fun k out j h1 h3 => ?_) (by omega) (by simp)
 have h2 : j < out.length := by omega
 have hj : (j : Int) < (a.length : Int) := by omega
 simp [Z6b, Z7w, hj, Y1 h1, Y1 h2, Y2 h1, Y5c (h.2 _ (List.getElem_mem h1)) hN, Y0 (j := j) (by omega)]
theorem Y4l {a b : T_FactS} (h : b_FactS a) (hN : 1048576 < N) : Z74 N a b = some (decide (a = b)) := by
 have hla : a.length <= 1048576 := h.1
 unfold Z74 Z9b
 by_cases hl : a.length = b.length
 ·have h0 : ((a.length : Int) != (b.length : Int)) = false := by simp [hl]
  rw [h0, cond_false, decide_eq_decide.2 (Y8 hl)]
  refine Ye (n := a.length) (fun j => decide (a[j]? = b[j]?)) (fun k i => Z6j N k a b i) (fun k => by simp [Z6j, Z80]) (fun k j hj => ?_) (by omega)
  have h1 : (j : Int) < (a.length : Int) := by omega
  have h2 : j < b.length := by omega
  simp only [Z6j, Z80, h1, decide_true, cond_true, Y1 hj, Y1 h2, grd_true, Y2 hj, Y2 h2, Y5d (h.2 _ (List.getElem_mem hj)) hN, Option.bind_some, Yj, Y0 (j := j) (by omega), List.getElem?_eq_getElem hj, List.getElem?_eq_getElem h2, Option.some.injEq]
 ·have h0 : ((a.length : Int) != (b.length : Int)) = true := by simp; omega
  rw [h0, cond_true]
  have : a ≠ b := fun h => hl (by rw [h])
  simp [this]
theorem Y4m {a : T_FactS} {l : Int} (h : in_FactS a) (h0 : 0 <= l) (h1 : l <= 1048576) (hN : 1048576 < N) : Z6v N a l = some (sub1 l (s_FactS a)) := by
 have hlen := h.1
 unfold Z6v Z95
 rw [Y5 (by omega) (by omega)]
 by_cases hc : (a.length : Int) <= l
 ·rw [decide_eq_false (by omega), cond_false]
  rw [szL (a := a) (s := s_Fact) (g := fun x l => Z6s N x l) (f := fun k l i => Z69 N k a l i) (fun x hx l h0 h1 => Y5e (h.2 x hx) h0 h1 hN) (fun k l => by simp [Z69, Z7v]) (fun k l j hj => by
    have h2 : (j : Int) < (a.length : Int) := by omega
    simp only [Z69, Z7v, h2, decide_true, cond_true, Y1 hj, grd_true, Y2 hj, Y0 (j := j) (by omega)]) (by omega) (by omega) (by omega)]
  unfold s_FactS sumL sub1
  congr 1
  split <;> split <;> omega
 ·rw [decide_eq_true (by omega), cond_true]
  unfold s_FactS sumL sub1
  rw [if_neg (by omega)]
def me_FactS (N : Nat) (x : T_Fact) (k : Int) : T_Fact := ((k), mk_IntS N x.2 (k + 1))
def ce_FactS (x : T_Fact) : Nat := 1 + c_IntS x.2
def mk_FactS (N : Nat) (a : T_FactS) (k : Int) : T_FactS := mkL ce_FactS (me_FactS N) a k
def c_FactS (a : T_FactS) : Nat := costL ce_FactS a
theorem Y4n (a : T_FactS) : c_FactS a <= 8 * s_FactS a := Yv (c := ce_FactS) (fun x => by have h0 := Y34 x.2; unfold ce_FactS s_Fact; omega) a
theorem Y4o {a : T_FactS} {k : Int} (h : b_FactS a) (h0 : 0 <= k) (h1 : k + (c_FactS a : Int) <= 4611686018427387904) (hN : 1048576 < N) : Z5u N a k = some (mk_FactS N a k, k + (c_FactS a : Int)) := by
 have hla : a.length <= 1048576 := h.1
 unfold Z5u Z8q
 refine Y1o (P := fun y => b_Fact y) (f := fun k a2 k2 i => Z5g N k a2 k2 i) (fun k a2 k2 j hj => by subst hj; simp [Z5g, Z76]) (fun k a2 k2 j h1 hy h0 hc hl => ?_) h.2 h0 h1 (by omega) (by omega)
 have h2 : (j : Int) < (a2.length : Int) := by omega
 have hy0 : b_IntS a2[j].2 := hy
 simp only [ce_FactS, Int.natCast_add, Int.cast_ofNat_Int, Int.natCast_one] at hc
 simp (disch := first | assumption | omega) only [Z5g, Z76, h2, decide_true, cond_true, Y1 h1, Yp, grd_true, Yd, letv_eq, Y2 h1, Y10, Yq, Int.toNat_natCast, Yn, Y0, Option.bind_some, Y35]
 simp only [ce_FactS, me_FactS, Int.natCast_add, Int.cast_ofNat_Int, Int.natCast_one, Int.add_assoc]
abbrev T_Database := (List (ByteArray × Int × Int)) × List (Int × List Int)
def in_Database (x : T_Database) : Prop := in_RelationS x.1 /\ in_FactS x.2
def s_Database (x : T_Database) : Nat := s_RelationS x.1 + s_FactS x.2
def b_Database (x : T_Database) : Prop := b_RelationS x.1 /\ b_FactS x.2
theorem Y32 {x : T_Database} (h : s_Database x <= 1048576) : b_Database x := ⟨Y2f (by unfold s_Database at h; omega), Y49 (by unfold s_Database at h; omega)⟩
theorem Y39 {x : T_Database} (h : b_Database x) (hN : 1048576 < N) : Z2m N x = some x := by
 simp [Z2m, Y2x h.1 hN, Y4k h.2 hN]
theorem Y3a {x y : T_Database} (h : b_Database x) (hN : 1048576 < N) : Z5e N x y = some (decide (x = y)) := by
 simp only [Z5e, bneI, bneB, beqB, Y1f, Y2y h.1 hN, Y4l h.2 hN, Option.bind_some]
 obtain ⟨x0, x1⟩ := x
 obtain ⟨y0, y1⟩ := y
 simp only [Prod.mk.injEq]
 by_cases e0 : x0 = y0 <;>
 by_cases e1 : x1 = y1 <;> simp [e0, e1]
theorem Y3b {x : T_Database} {l : Int} (h : in_Database x) (h0 : 0 <= l) (h1 : l <= 1048576) (hN : 1048576 < N) : Z50 N x l = some (sub1 l (s_Database x)) := by
 unfold Z50 s_Database
 rw [Y2z (l := l) h.1 (by omega) (by omega) hN, Option.bind_some]
 by_cases c0 : (s_RelationS x.1 : Int) <= l
 case neg => rw [Ya c0]; rw [Ya (by omega)]; rfl
 rw [Yf c0, decide_eq_false (show ¬ l - (s_RelationS x.1 : Int) < 0 by omega), cond_false]
 rw [Y4m (l := (l - (s_RelationS x.1 : Int))) h.2 (by omega) (by omega) hN, Option.bind_some]
 by_cases c1 : (s_FactS x.2 : Int) <= (l - (s_RelationS x.1 : Int))
 case neg => rw [Ya c1]; rw [Ya (by omega)]; rfl
 rw [Yf c1, decide_eq_false (show ¬ (l - (s_RelationS x.1 : Int)) - (s_FactS x.2 : Int) < 0 by omega), cond_false]
 rw [Yf (by omega)]; congr 1; omega
def mk_Database (N : Nat) (x : T_Database) (k : Int) : T_Database := (mk_RelationS N x.1 (k), mk_FactS N x.2 (k + (c_RelationS x.1 : Int)))
def c_Database (x : T_Database) : Nat := c_RelationS x.1 + c_FactS x.2
theorem Y3c (x : T_Database) : c_Database x <= 8 * s_Database x := by have h0 := Y30 x.1; have h1 := Y4n x.2; unfold c_Database s_Database; omega
theorem Y3d (hm : MtOk N) {x : T_Database} {k : Int} (h : b_Database x) (h0 : 0 <= k) (h1 : k + (c_Database x : Int) <= 4611686018427387904) (hN : 1048576 < N) : Z39 N x k = some (mk_Database N x k, k + (c_Database x : Int)) := by
 have hb0 : b_RelationS x.1 := h.1
 have hb1 : b_FactS x.2 := h.2
 simp only [c_Database, Int.natCast_add] at h1
 simp (disch := first | assumption | omega) only [Z39, Option.bind_some, Y31 hm, Y4o]
 simp only [mk_Database, c_Database, Int.natCast_add, Int.add_assoc]
abbrev T_ConflictEdge := Int × Int
def in_ConflictEdge (x : T_ConflictEdge) : Prop := in_int x.1 /\ in_int x.2
theorem Y20 (x : T_ConflictEdge) (hN : 1048576 < N) : Z45 N x = some x := rfl
theorem Y21 {x y : T_ConflictEdge} (hN : 1048576 < N) : Z3a N x y = some (decide (x = y)) := by
 simp only [Z3a, bneI, bneB, beqB, Y1f, Option.bind_some]
 obtain ⟨x0, x1⟩ := x
 obtain ⟨y0, y1⟩ := y
 simp only [Prod.mk.injEq]
 by_cases e0 : x0 = y0 <;>
 by_cases e1 : x1 = y1 <;> simp [e0, e1]
abbrev T_ConflictEdgeS := List T_ConflictEdge
def in_ConflictEdgeS (a : T_ConflictEdgeS) : Prop := a.length <= 9223372036854775807 /\ ∀ y ∈ a, in_ConflictEdge y
def s_ConflictEdgeS (a : T_ConflictEdgeS) : Nat := a.length
def b_ConflictEdgeS (a : T_ConflictEdgeS) : Prop := a.length <= 1048576
theorem Y1g {a : T_ConflictEdgeS} (h : s_ConflictEdgeS a <= 1048576) : b_ConflictEdgeS a := h
theorem Y1r {a : T_ConflictEdgeS} (h : b_ConflictEdgeS a) (hN : 1048576 < N) : Z0y N a = some a := by
 have hl : a.length <= 1048576 := h
 unfold Z0y Z7l
 rw [Yh (by omega), grd_true]
 refine fill (b := a) (fun k out i => Z2q N k a out i) (fun k out => by simp [Z2q, Z4u]) (fun k out j h1 h3 => ?_) (by omega) (by simp)
 have h2 : j < out.length := by omega
 have hj : (j : Int) < (a.length : Int) := by omega
 simp [Z2q, Z4u, hj, Y1 h1, Y1 h2, Y2 h1, Y20 _ hN, Y0 (j := j) (by omega)]
theorem Y1s {a b : T_ConflictEdgeS} (h : b_ConflictEdgeS a) (hN : 1048576 < N) : Z34 N a b = some (decide (a = b)) := by
 have hla : a.length <= 1048576 := h
 unfold Z34 Z7t
 by_cases hl : a.length = b.length
 ·have h0 : ((a.length : Int) != (b.length : Int)) = false := by simp [hl]
  rw [h0, cond_false, decide_eq_decide.2 (Y8 hl)]
  refine Ye (n := a.length) (fun j => decide (a[j]? = b[j]?)) (fun k i => Z2w N k a b i) (fun k => by simp [Z2w, Z4z]) (fun k j hj => ?_) (by omega)
  have h1 : (j : Int) < (a.length : Int) := by omega
  have h2 : j < b.length := by omega
  simp only [Z2w, Z4z, h1, decide_true, cond_true, Y1 hj, Y1 h2, grd_true, Y2 hj, Y2 h2, Y21  hN, Option.bind_some, Yj, Y0 (j := j) (by omega), List.getElem?_eq_getElem hj, List.getElem?_eq_getElem h2, Option.some.injEq]
 ·have h0 : ((a.length : Int) != (b.length : Int)) = true := by simp; omega
  rw [h0, cond_true]
  have : a ≠ b := fun h => hl (by rw [h])
  simp [this]
theorem Y1t {a : T_ConflictEdgeS} {l : Int} (h : in_ConflictEdgeS a) (h0 : 0 <= l) (h1 : l <= 1048576) (hN : 1048576 < N) : Z2x N a l = some (sub1 l (s_ConflictEdgeS a)) := by
 have := h.1
 unfold Z2x s_ConflictEdgeS sub1
 rw [Y5 (by omega) (by omega)]
 by_cases h : (a.length : Int) <= l
 ·rw [if_pos h, decide_eq_false (by omega)]; rfl
 ·rw [if_neg h, decide_eq_true (by omega)]; rfl
def me_ConflictEdgeS (N : Nat) (x : T_ConflictEdge) (k : Int) : T_ConflictEdge := ((k), (k + 1))
def ce_ConflictEdgeS (x : T_ConflictEdge) : Nat := 1 + 1
def mk_ConflictEdgeS (N : Nat) (a : T_ConflictEdgeS) (k : Int) : T_ConflictEdgeS := mkL ce_ConflictEdgeS (me_ConflictEdgeS N) a k
def c_ConflictEdgeS (a : T_ConflictEdgeS) : Nat := costL ce_ConflictEdgeS a
theorem Y1u (a : T_ConflictEdgeS) : c_ConflictEdgeS a <= 8 * s_ConflictEdgeS a := Y16 (c := ce_ConflictEdgeS) (fun x => by unfold ce_ConflictEdgeS; omega) a
theorem Y1v {a : T_ConflictEdgeS} {k : Int} (h : b_ConflictEdgeS a) (h0 : 0 <= k) (h1 : k + (c_ConflictEdgeS a : Int) <= 4611686018427387904) (hN : 1048576 < N) : Z21 N a k = some (mk_ConflictEdgeS N a k, k + (c_ConflictEdgeS a : Int)) := by
 have hla : a.length <= 1048576 := h
 unfold Z21 Z75
 refine Y1o (P := fun y => True) (f := fun k a2 k2 i => Z29 N k a2 k2 i) (fun k a2 k2 j hj => by subst hj; simp [Z29, Z42]) (fun k a2 k2 j h1 hy h0 hc hl => ?_) (fun _ _ => trivial) h0 h1 (by omega) (by omega)
 have h2 : (j : Int) < (a2.length : Int) := by omega
 simp only [ce_ConflictEdgeS, Int.natCast_add, Int.cast_ofNat_Int, Int.natCast_one] at hc
 simp (disch := first | assumption | omega) only [Z29, Z42, h2, decide_true, cond_true, Y1 h1, Yp, grd_true, Yd, letv_eq, Y2 h1, Y10, Yq, Int.toNat_natCast, Yn, Y0, Option.bind_some, Option.bind_some]
 simp only [ce_ConflictEdgeS, me_ConflictEdgeS, Int.natCast_add, Int.cast_ofNat_Int, Int.natCast_one, Int.add_assoc]
abbrev T_DenialConstraint := Int × Int × Int × Int × Int × Int × Int
noncomputable instance dec_DenialConstraint : DecidableEq T_DenialConstraint := fun _ _ => Classical.propDecidable _
def in_DenialConstraint (x : T_DenialConstraint) : Prop := in_int x.1 /\ in_int x.2.1 /\ in_int x.2.2.1 /\ in_int x.2.2.2.1 /\ in_int x.2.2.2.2.1 /\ in_int x.2.2.2.2.2.1 /\ in_int x.2.2.2.2.2.2
theorem Y17 (x : T_DenialConstraint) (hN : 1048576 < N) : Z2p N x = some x := rfl
theorem Y18 {x y : T_DenialConstraint} (hN : 1048576 < N) : Z1t N x y = some (decide (x = y)) := by
 simp only [Z1t, bneI, bneB, beqB, Y1f, Option.bind_some]
 obtain ⟨x0, x1, x2, x3, x4, x5, x6⟩ := x
 obtain ⟨y0, y1, y2, y3, y4, y5, y6⟩ := y
 simp only [Prod.mk.injEq]
 by_cases e0 : x0 = y0 <;>
 by_cases e1 : x1 = y1 <;>
 by_cases e2 : x2 = y2 <;>
 by_cases e3 : x3 = y3 <;>
 by_cases e4 : x4 = y4 <;>
 by_cases e5 : x5 = y5 <;>
 by_cases e6 : x6 = y6 <;> simp [e0, e1, e2, e3, e4, e5, e6]
abbrev T_DenialConstraintS := List T_DenialConstraint
def in_DenialConstraintS (a : T_DenialConstraintS) : Prop := a.length <= 9223372036854775807 /\ ∀ y ∈ a, in_DenialConstraint y
def s_DenialConstraintS (a : T_DenialConstraintS) : Nat := a.length
def b_DenialConstraintS (a : T_DenialConstraintS) : Prop := a.length <= 1048576
theorem Yy {a : T_DenialConstraintS} (h : s_DenialConstraintS a <= 1048576) : b_DenialConstraintS a := h
theorem Y11 {a : T_DenialConstraintS} (h : b_DenialConstraintS a) (hN : 1048576 < N) : Z0k N a = some a := by
 have hl : a.length <= 1048576 := h
 unfold Z0k Z6k
 rw [Yh (by omega), grd_true]
 refine fill (b := a) (fun k out i => Z1k N k a out i) (fun k out => by simp [Z1k, Z3l]) (fun k out j h1 h3 => ?_) (by omega) (by simp)
 have h2 : j < out.length := by omega
 have hj : (j : Int) < (a.length : Int) := by omega
 simp [Z1k, Z3l, hj, Y1 h1, Y1 h2, Y2 h1, Y17 _ hN, Y0 (j := j) (by omega)]
theorem Y12 {a b : T_DenialConstraintS} (h : b_DenialConstraintS a) (hN : 1048576 < N) : Z1j N a b = some (decide (a = b)) := by
 have hla : a.length <= 1048576 := h
 unfold Z1j Z6m
 by_cases hl : a.length = b.length
 ·have h0 : ((a.length : Int) != (b.length : Int)) = false := by simp [hl]
  rw [h0, cond_false, decide_eq_decide.2 (Y8 hl)]
  refine Ye (n := a.length) (fun j => decide (a[j]? = b[j]?)) (fun k i => Z1p N k a b i) (fun k => by simp [Z1p, Z3m]) (fun k j hj => ?_) (by omega)
  have h1 : (j : Int) < (a.length : Int) := by omega
  have h2 : j < b.length := by omega
  simp only [Z1p, Z3m, h1, decide_true, cond_true, Y1 hj, Y1 h2, grd_true, Y2 hj, Y2 h2, Y18  hN, Option.bind_some, Yj, Y0 (j := j) (by omega), List.getElem?_eq_getElem hj, List.getElem?_eq_getElem h2, Option.some.injEq]
 ·have h0 : ((a.length : Int) != (b.length : Int)) = true := by simp; omega
  rw [h0, cond_true]
  have : a ≠ b := fun h => hl (by rw [h])
  simp [this]
theorem Y13 {a : T_DenialConstraintS} {l : Int} (h : in_DenialConstraintS a) (h0 : 0 <= l) (h1 : l <= 1048576) (hN : 1048576 < N) : Z1i N a l = some (sub1 l (s_DenialConstraintS a)) := by
 have := h.1
 unfold Z1i s_DenialConstraintS sub1
 rw [Y5 (by omega) (by omega)]
 by_cases h : (a.length : Int) <= l
 ·rw [if_pos h, decide_eq_false (by omega)]; rfl
 ·rw [if_neg h, decide_eq_true (by omega)]; rfl
def me_DenialConstraintS (N : Nat) (x : T_DenialConstraint) (k : Int) : T_DenialConstraint := ((k), (k + 1), (k + 1 + 1), (k + 1 + 1 + 1), (k + 1 + 1 + 1 + 1), (k + 1 + 1 + 1 + 1 + 1), (k + 1 + 1 + 1 + 1 + 1 + 1))
def ce_DenialConstraintS (x : T_DenialConstraint) : Nat := 1 + 1 + 1 + 1 + 1 + 1 + 1
def mk_DenialConstraintS (N : Nat) (a : T_DenialConstraintS) (k : Int) : T_DenialConstraintS := mkL ce_DenialConstraintS (me_DenialConstraintS N) a k
def c_DenialConstraintS (a : T_DenialConstraintS) : Nat := costL ce_DenialConstraintS a
theorem Y14 (a : T_DenialConstraintS) : c_DenialConstraintS a <= 8 * s_DenialConstraintS a := Y16 (c := ce_DenialConstraintS) (fun x => by unfold ce_DenialConstraintS; omega) a
theorem Y15 {a : T_DenialConstraintS} {k : Int} (h : b_DenialConstraintS a) (h0 : 0 <= k) (h1 : k + (c_DenialConstraintS a : Int) <= 4611686018427387904) (hN : 1048576 < N) : Z1a N a k = some (mk_DenialConstraintS N a k, k + (c_DenialConstraintS a : Int)) := by
 have hla : a.length <= 1048576 := h
 unfold Z1a Z5v
 refine Y1o (P := fun y => True) (f := fun k a2 k2 i => Z1d N k a2 k2 i) (fun k a2 k2 j hj => by subst hj; simp [Z1d, Z38]) (fun k a2 k2 j h1 hy h0 hc hl => ?_) (fun _ _ => trivial) h0 h1 (by omega) (by omega)
 have h2 : (j : Int) < (a2.length : Int) := by omega
 simp only [ce_DenialConstraintS, Int.natCast_add, Int.cast_ofNat_Int, Int.natCast_one] at hc
 simp (disch := first | assumption | omega) only [Z1d, Z38, h2, decide_true, cond_true, Y1 h1, Yp, grd_true, Yd, letv_eq, Y2 h1, Y10, Yq, Int.toNat_natCast, Yn, Y0, Option.bind_some, Option.bind_some]
 simp only [ce_DenialConstraintS, me_DenialConstraintS, Int.natCast_add, Int.cast_ofNat_Int, Int.natCast_one, Int.add_assoc]
theorem Y3y {α β : Type} {a : List α} (piece : α -> List β) {f : Nat -> List β -> Int -> Option (List β)} (hp : ∀ x ∈ a, (piece x).length <= 1) (hend : ∀ k out, f (k + 1) out (a.length : Int) = some out)
  (hstep : ∀ k out j (h : j < a.length), out.length <= j -> f (k + 1) out (j : Int) = f k (out ++ piece a[j]) ((j + 1 : Nat) : Int)) {k : Nat} (hk : a.length < k) : f k [] 0 = some (a.flatMap piece) := by
 have := loop (fun k (q : List β × Nat) => f k q.1 (q.2 : Int)) (fun q => q.2 <= a.length /\ q.1.length <= q.2 /\ q.1 ++ (a.drop q.2).flatMap piece = a.flatMap piece) (fun q => a.length - q.2) (fun o => o = some (a.flatMap piece)) (fun k q hs => by
  obtain ⟨out, j⟩ := q
  obtain ⟨h1, h2, h3⟩ := hs
  simp only at h1 h2 h3 ⊢
  by_cases hj : j < a.length
  ·right
   refine ⟨(out ++ piece a[j], j + 1), ⟨hj, ?_, ?_⟩, by simp only; omega, hstep k out j hj h2⟩
   ·have := hp a[j] (List.getElem_mem hj)
    simp only [List.length_append]; omega
   ·rw [<- h3, List.drop_eq_getElem_cons hj, List.flatMap_cons, List.append_assoc]
  ·left
   have : j = a.length := by omega
   subst this
   rw [hend, <- h3, List.drop_length]; simp) k ([], 0) (by simpa using hk) ⟨by simp, by simp, by simp⟩
 exact this
theorem Y3e {α : Type} {s x : List α} {b : Nat} (h : (s.length + x.length) * b <= 140737488355328) : appOk s x b = true := decide_eq_true h
theorem Yz {α β : Type} {piece : α -> List β} {n : Nat} : ∀ {a : List α}, (∀ x ∈ a, (piece x).length <= n) -> (a.flatMap piece).length <= a.length * n
 | [], _ => by simp
 | x :: a, h => by
  have h1 := h x (by simp)
  have h2 := Yz (a := a) fun y hy => h y (by simp [hy])
  rw [List.flatMap_cons, List.length_append, List.length_cons, Nat.add_mul]; omega
abbrev Rel := ByteArray × Int × Int
abbrev Fact := Int × List Int
abbrev Db := List Rel × List Fact
structure SmallDb (d : Db) : Prop where
 rels : d.1.length <= 1048576
 facts : d.2.length <= 1048576
 vals : ∀ f ∈ d.2, f.2.length <= 1048576
theorem Y3u {α : Type} [DecidableEq α] {a b : List α} (h : a.length = b.length) : (a = b) ↔ ∀ j, j < a.length -> (decide (a[j]? = b[j]?)) = true := by
 constructor
 ·rintro rfl j _; simp
 ·intro h2
  apply List.ext_getElem? 
  intro j
  by_cases hj : j < a.length
  ·simpa using h2 j hj
  ·rw [List.getElem?_eq_none (by omega), List.getElem?_eq_none (by omega)]
theorem l1In (N : Nat) (x a b : Int) : Z0l N x a b = some (decide (a <= x /\ x <= b)) := by
 unfold Z0l
 by_cases h : a <= x <;> simp [h]
theorem Yr (N : Nat) (x a b : Int) : Z0a N x a b = some (decide (a <= x /\ x <= b)) := by
 unfold Z0a
 by_cases h : a <= x <;> simp [h]
def validRel (r : Rel) : Bool := (Z9 0 r).getD false
theorem Y2g (N : Nat) (r : Rel) : Z9 N r = some (validRel r) := by
 have key : ∃ b, Z9 0 r = some b := by
  unfold Z9
  by_cases h : r.1.size = 1
  ·have hb : ∃ b, byteAt r.1 0 = some b := by
    unfold byteAt
    have : (0 : Int).toNat < r.1.size := by omega
    exact ⟨r.1[(0 : Int).toNat], by rw [if_pos (by omega), getElem?_pos]⟩
   obtain ⟨b, hb⟩ := hb
   rw [hb]
   simp only [Option.bind_some, l1In]
   cases ((r.1.size : Int) == 1) with
   | false => exact ⟨_, rfl⟩
   | true =>
    cases decide ((b.toNat : Int) >= 97) with
    | false => exact ⟨_, rfl⟩
    | true =>
     cases decide ((b.toNat : Int) <= 122) with
     | false => exact ⟨_, rfl⟩
     | true =>
      cases decide (1 <= r.2.1 /\ r.2.1 <= 3) with
      | false => exact ⟨_, rfl⟩
      | true => exact ⟨_, rfl⟩
  ·have h0 : ((r.1.size : Int) == 1) = false := by rw [beqI]; simp; omega
   rw [h0]; exact ⟨false, rfl⟩
 obtain ⟨b, hb⟩ := key
 have e : Z9 N r = Z9 0 r := by
  unfold Z9; simp only [l1In]
 rw [e, validRel, hb]; rfl
theorem Y5s (N : Nat) (r : Rel) : Z2y N r = some (validRel r) := by
 rw [<- Y2g N r]
 unfold Z2y Z9
 simp only [l1In, Yr]
def validRels (l : List Rel) : Bool := decide ((∀ j, j < l.length -> (validRel (l.getD j (⟨#[]⟩, 0, 0)) && (decide (j = 0) || slt (l.getD (j - 1) (⟨#[]⟩, 0, 0)).1 (l.getD j (⟨#[]⟩, 0, 0)).1)) = true) /\ l.length <= 4)
theorem Y3 {α : Type} {d : α} {j : Nat} {xs : List α} (h : j < xs.length) : xs.getD j d = xs[j] := by simp [h]
theorem Y22 {l : List Rel} (hl : l.length <= 1048576) (hN : 1048576 < N) : Z0t N l = some (validRels l) := by
 unfold Z0t Z52
 rw [Y7 (n := l.length) (fun j => validRel (l.getD j (⟨#[]⟩, 0, 0)) && (decide (j = 0) || slt (l.getD (j - 1) (⟨#[]⟩, 0, 0)).1 (l.getD j (⟨#[]⟩, 0, 0)).1)) (some false) (some (decide (l.length <= 4))) (fun k i => Z0n N k l i)
  (fun k => by simp [Z0n, Z1l]; omega) (fun k j hj => ?_) (by omega)]
 ·unfold validRels
  by_cases h : ∀ j, j < l.length -> (validRel (l.getD j (⟨#[]⟩, 0, 0)) && (decide (j = 0) || slt (l.getD (j - 1) (⟨#[]⟩, 0, 0)).1 (l.getD j (⟨#[]⟩, 0, 0)).1)) = true
  ·rw [if_pos h]; congr 1; exact decide_eq_decide.2 ⟨fun h2 => ⟨h, h2⟩, fun h2 => h2.2⟩
  ·rw [if_neg h]; congr 1; symm; exact decide_eq_false fun h2 => h h2.1
 ·have h1 : (j : Int) < (l.length : Int) := by omega
  simp only [Z0n, Z1l, h1, decide_true, cond_true, Y1 hj, grd_true, Y2 hj, Y2g, Option.bind_some, Y3 hj, Y0 (j := j) (by omega)]
  cases validRel l[j] with
  | false => rfl
  | true =>
   simp only [Bool.not_true, cond_false, Bool.true_and]
   by_cases h0 : j = 0
   ·subst h0; simp
   ·have h3 : (j : Int) > 0 := by omega
    have h4 : j - 1 < l.length := by omega
    simp only [h3, decide_true, cond_true, Y9 (show 0 < j by omega) (by omega), Y1 h4, grd_true, Y2 h4, h0, decide_false, Bool.false_or, Y3 h4]
    cases slt l[j - 1].1 l[j].1 <;> rfl
theorem Y5f {l : List Rel} (hl : l.length <= 1048576) (hN : 1048576 < N) : Z1y N l = some (validRels l) := by
 rw [<- Y22 hl hN]
 unfold Z1y Z6z Z0t Z52
 rw [Y7 (n := l.length) (fun j => validRel (l.getD j (⟨#[]⟩, 0, 0)) && (decide (j = 0) || slt (l.getD (j - 1) (⟨#[]⟩, 0, 0)).1 (l.getD j (⟨#[]⟩, 0, 0)).1)) (some false) (some (decide (l.length <= 4))) (fun k i => Z0n N k l i)
  (fun k => by simp [Z0n, Z1l]; omega) (fun k j hj => ?_) (by omega),
  Y7 (n := l.length) (fun j => validRel (l.getD j (⟨#[]⟩, 0, 0)) && (decide (j = 0) || slt (l.getD (j - 1) (⟨#[]⟩, 0, 0)).1 (l.getD j (⟨#[]⟩, 0, 0)).1)) (some false) (some (decide (l.length <= 4))) (fun k i => Z26 N k l l (l.length : Int) i)
  (fun k => by simp [Z26, Z40]; omega) (fun k j hj => ?_) (by omega)]
 ·have h1 : (j : Int) < (l.length : Int) := by omega
  simp only [Z26, Z40, h1, decide_true, cond_true, Y1 hj, grd_true, Y2 hj, Y5s, Option.bind_some, Y3 hj, Y0 (j := j) (by omega)]
  cases validRel l[j] with
  | false => rfl
  | true =>
   simp only [Bool.not_true, cond_false, Bool.true_and]
   by_cases h0 : j = 0
   ·subst h0; simp
   ·have h3 : (j : Int) > 0 := by omega
    have h4 : j - 1 < l.length := by omega
    simp only [h3, decide_true, cond_true, Y9 (show 0 < j by omega) (by omega), Y1 h4, grd_true, Y2 h4, h0, decide_false, Bool.false_or, Y3 h4]
    cases slt l[j - 1].1 l[j].1 <;> rfl
 ·have h1 : (j : Int) < (l.length : Int) := by omega
  simp only [Z0n, Z1l, h1, decide_true, cond_true, Y1 hj, grd_true, Y2 hj, Y2g, Option.bind_some, Y3 hj, Y0 (j := j) (by omega)]
  cases validRel l[j] with
  | false => rfl
  | true =>
   simp only [Bool.not_true, cond_false, Bool.true_and]
   by_cases h0 : j = 0
   ·subst h0; simp
   ·have h3 : (j : Int) > 0 := by omega
    have h4 : j - 1 < l.length := by omega
    simp only [h3, decide_true, cond_true, Y9 (show 0 < j by omega) (by omega), Y1 h4, grd_true, Y2 h4, h0, decide_false, Bool.false_or, Y3 h4]
    cases slt l[j - 1].1 l[j].1 <;> rfl
def validVals (xs : List Int) : Bool := xs.all fun x => decide (0 <= x /\ x <= 9)
theorem Y3z {α : Type} {d : α} {xs : List α} {p : α -> Bool} : (∀ j, j < xs.length -> p (xs.getD j d) = true) ↔ xs.all p = true := by
 rw [List.all_eq_true]
 constructor
 ·intro h x hx
  obtain ⟨i, hi, rfl⟩ := List.mem_iff_getElem.1 hx
  have := h i hi
  rwa [Y3 hi] at this
 ·intro h j hj
  rw [Y3 hj]
  exact h _ (List.getElem_mem hj)
def fact1 (l : List Rel) (f : Fact) : Bool := decide (0 <= f.1 /\ f.1 <= (l.length : Int) - 1) && (decide ((f.2.length : Int) = (l.getD f.1.toNat (⟨#[]⟩, 0, 0)).2.1) && validVals f.2)
theorem Y19 {l : List Rel} {f : Fact} (hl : l.length <= 1048576) (hf : f.2.length <= 1048576) (hN : 1048576 < N) : Z18 N l f = some (validRels l && fact1 l f) := by
 obtain ⟨r, v⟩ := f
 unfold Z18 Z8i
 rw [Y22 hl hN, Option.bind_some]
 cases validRels l with
 | false => rfl
 | true =>
  simp only [Bool.not_true, cond_false, l1In, Option.bind_some, Bool.true_and, fact1]
  rw [Y5 (by omega) (by omega)]
  by_cases h : 0 <= r /\ r <= (l.length : Int) - 1
  ·have h2 : r.toNat < l.length := by omega
   simp only [h, and_self, decide_true, Bool.not_true, cond_false, Yb h.1 (show r < l.length by omega), grd_true, Y4e h.1 (show r < l.length by omega), bneI, Y3 h2, Bool.true_and]
   by_cases h3 : (v.length : Int) = l[r.toNat].2.1
   ·simp only [h3, decide_true, Bool.not_true, cond_false, Bool.true_and]
    rw [Y7 (n := v.length) (fun j => decide (0 <= v.getD j 0 /\ v.getD j 0 <= 9)) (some false) (some true) (fun k i => Z46 N k r v i) (fun k => by simp [Z46, Z6c]) (fun k j hj => ?_) (by simp only at hf; omega)]
    ·unfold validVals
     by_cases h4 : ∀ j, j < v.length -> decide (0 <= v.getD j 0 /\ v.getD j 0 <= 9) = true
     ·rw [if_pos h4, (Y3z (d := (0 : Int)) (p := fun x => decide (0 <= x /\ x <= 9))).1 h4]
     ·rw [if_neg h4]
      congr 1; symm
      rw [Bool.eq_false_iff]
      exact fun h5 => h4 ((Y3z (d := (0 : Int)) (p := fun x => decide (0 <= x /\ x <= 9))).2 h5)
    ·have h1 : (j : Int) < (v.length : Int) := by omega
     simp only at hf
     simp only [Z46, Z6c, h1, decide_true, cond_true, Y1 hj, grd_true, Y2 hj, l1In, Option.bind_some, Y3 hj, Y0 (j := j) (by omega), Yj]
   ·simp only [h3, decide_false, Bool.not_false, cond_true, Bool.false_and]
  ·simp only [h, decide_false, Bool.not_false, cond_true, Bool.false_and]
def cmpInts : List Int -> List Int -> Int
 | [], [] => 0
 | [], _ :: _ => -1
 | _ :: _, [] => 1
 | a :: x, b :: y => if a < b then -1 else if a > b then 1 else cmpInts x y
theorem Y2a : ∀ (a b : List Int), cmpInts a b = 0 ↔ a = b
 | [], [] => by simp [cmpInts]
 | [], _ :: _ => by simp [cmpInts]
 | _ :: _, [] => by simp [cmpInts]
 | a :: x, b :: y => by
  simp only [cmpInts, List.cons.injEq]
  split
  ·rename_i h; constructor
   ·intro h; omega
   ·intro h2; omega
  ·split
   ·rename_i h; constructor
    ·intro h; omega
    ·intro h2; omega
   ·rw [Y2a x y]
    constructor
    ·intro h; exact ⟨by omega, h⟩
    ·intro h; exact h.2
theorem Y3f {a b : List Int} (ha : a.length <= 1048576) (hb : b.length <= 1048576) (hN : 1048576 < N) : Z5y N a b = some (cmpInts a b) := by
 unfold Z5y Z9g
 have := loop (fun k (j : Nat) => Z5q N k a b (j : Int)) (fun j => j <= a.length /\ j <= b.length /\ cmpInts (a.drop j) (b.drop j) = cmpInts a b) (fun j => a.length - j) (fun o => o = some (cmpInts a b)) (fun k j hs => by
  obtain ⟨h1, h2, h3⟩ := hs
  by_cases hj : j < a.length
  ·by_cases hjb : j < b.length
   ·have e1 : (j : Int) < (a.length : Int) := by omega
    have e2 : (j : Int) < (b.length : Int) := by omega
    simp only [Z5q, Z6x, e1, e2, decide_true, cond_true, Y1 hj, Y1 hjb, grd_true, Y2 hj, Y2 hjb, Y0 (j := j) (by omega)]
    rw [List.drop_eq_getElem_cons hj, List.drop_eq_getElem_cons hjb] at h3
    simp only [cmpInts] at h3
    by_cases hlt : a[j] < b[j]
    ·left; simp only [hlt, if_true, decide_true, cond_true] at h3 ⊢; rw [h3]
    ·by_cases hgt : a[j] > b[j]
     ·left; simp only [hlt, hgt, if_true, if_false, decide_true, decide_false, cond_true, cond_false] at h3 ⊢; rw [h3]
     ·right
      simp only [hlt, hgt, if_false, decide_false, cond_false] at h3 ⊢
      exact ⟨j + 1, ⟨by omega, by omega, h3⟩, by omega, rfl⟩
   ·left
    have e1 : (j : Int) < (a.length : Int) := by omega
    have e2 : ¬ (j : Int) < (b.length : Int) := by omega
    have e3 : ¬ (a.length : Int) < (b.length : Int) := by omega
    have e4 : (a.length : Int) > (b.length : Int) := by omega
    simp only [Z5q, Z6x, e1, e2, e3, e4, decide_true, decide_false, cond_true, cond_false]
    rw [List.drop_eq_getElem_cons hj, List.drop_of_length_le (l := b) (by omega)] at h3
    rw [<- h3]; rfl
  ·left
   have hja : j = a.length := by omega
   have e1 : ¬ (j : Int) < (a.length : Int) := by omega
   simp only [Z5q, Z6x, e1, decide_false, cond_false]
   rw [List.drop_of_length_le (l := a) (by omega)] at h3
   by_cases hlt : a.length < b.length
   ·have e2 : (a.length : Int) < (b.length : Int) := by omega
    simp only [e2, decide_true, cond_true]
    rw [List.drop_eq_getElem_cons (by omega)] at h3
    rw [<- h3]; rfl
   ·have e2 : ¬ (a.length : Int) < (b.length : Int) := by omega
    have e3 : ¬ (a.length : Int) > (b.length : Int) := by omega
    simp only [e2, e3, decide_false, cond_false]
    rw [List.drop_of_length_le (by omega)] at h3
    rw [<- h3]; rfl) N 0 (by omega) ⟨by omega, by omega, rfl⟩
 exact this
theorem Y5g {a b : List Int} (ha : a.length <= 1048576) (hb : b.length <= 1048576) (hN : 1048576 < N) : Z1r N a b = some (cmpInts a b) := by
 have hc : ∀ x y : Int, Z56 N x y = some (if x < y then -1 else if x > y then 1 else 0) := by
  intro x y
  simp only [Z56, Z6l, Option.bind_some, bneI, decide_true, Bool.not_true, cond_false]
  by_cases h1 : x < y
  ·simp [h1]
  ·by_cases h2 : x > y <;> simp [h1, h2]
 unfold Z1r Z6p
 have := loop (fun k (j : Nat) => Z19 N k a b a (a.length : Int) (j : Int)) (fun j => j <= a.length /\ j <= b.length /\ cmpInts (a.drop j) (b.drop j) = cmpInts a b) (fun j => a.length - j) (fun o => o = some (cmpInts a b)) (fun k j hs => by
  obtain ⟨h1, h2, h3⟩ := hs
  by_cases hj : j < a.length
  ·have e1 : (j : Int) < (a.length : Int) := by omega
   by_cases hjb : j < b.length
   ·have e2 : ¬ (j : Int) >= (b.length : Int) := by omega
    simp only [Z19, Z2d, e1, e2, decide_true, decide_false, cond_true, cond_false, Y1 hj, Y1 hjb, grd_true, Y2 hj, Y2 hjb, Y0 (j := j) (by omega), hc, Option.bind_some]
    rw [List.drop_eq_getElem_cons hj, List.drop_eq_getElem_cons hjb] at h3
    simp only [cmpInts] at h3
    by_cases hlt : a[j] < b[j]
    ·left; simp only [hlt, if_true] at h3 ⊢; rw [<- h3]; rfl
    ·by_cases hgt : a[j] > b[j]
     ·left; simp only [hlt, hgt, if_true, if_false] at h3 ⊢; rw [<- h3]; rfl
     ·right
      simp only [hlt, hgt, if_false] at h3 ⊢
      exact ⟨j + 1, ⟨by omega, by omega, h3⟩, by omega, rfl⟩
   ·left
    have e2 : (j : Int) >= (b.length : Int) := by omega
    simp only [Z19, Z2d, e1, e2, decide_true, cond_true, Y1 hj, grd_true]
    rw [List.drop_eq_getElem_cons hj, List.drop_of_length_le (l := b) (by omega)] at h3
    rw [<- h3]; rfl
  ·left
   have e1 : ¬ (j : Int) < (a.length : Int) := by omega
   simp only [Z19, Z2d, e1, decide_false, cond_false]
   rw [List.drop_of_length_le (l := a) (by omega)] at h3
   by_cases hlt : a.length < b.length
   ·have e2 : (a.length : Int) < (b.length : Int) := by omega
    simp only [e2, decide_true, cond_true]
    rw [List.drop_eq_getElem_cons (by omega)] at h3
    rw [<- h3]; rfl
   ·have e2 : ¬ (a.length : Int) < (b.length : Int) := by omega
    simp only [e2, decide_false, cond_false]
    rw [List.drop_of_length_le (by omega)] at h3
    rw [<- h3]; rfl) N 0 (by omega) ⟨by omega, by omega, rfl⟩
 exact this
def cmpFacts (a b : Fact) : Int := if a.1 < b.1 then -1 else if a.1 > b.1 then 1 else cmpInts a.2 b.2
theorem Y5t {a b : Fact} (ha : a.2.length <= 1048576) (hb : b.2.length <= 1048576) (hN : 1048576 < N) : Z3t N a b = some (cmpFacts a b) := by
 unfold Z3t cmpFacts
 rw [Y3f ha hb hN]
 by_cases h1 : a.1 < b.1
 ·simp [h1]
 ·by_cases h2 : a.1 > b.1 <;> simp [h1, h2]
theorem Y5u {a b : Fact} (ha : a.2.length <= 1048576) (hb : b.2.length <= 1048576) (hN : 1048576 < N) : Z3u N a b = some (cmpFacts a b) := by
 unfold Z3u cmpFacts Z82
 rw [Y5g ha hb hN, bneI]
 by_cases h1 : a.1 < b.1
 ·have : ¬ a.1 = b.1 := by omega
  simp [h1, this]
 ·by_cases h2 : a.1 > b.1
  ·have : ¬ a.1 = b.1 := by omega
   simp [h1, h2, this]
  ·have : a.1 = b.1 := by omega
   simp [this]
theorem Y3g {α : Type} (d : α) {xs : List α} {p : α -> Bool} : (∃ j, j < xs.length /\ p (xs.getD j d) = true) ↔ xs.any p = true := by
 rw [List.any_eq_true]
 constructor
 ·rintro ⟨j, hj, h⟩
  rw [Y3 hj] at h
  exact ⟨_, List.getElem_mem hj, h⟩
 ·rintro ⟨x, hx, h⟩
  obtain ⟨i, hi, rfl⟩ := List.mem_iff_getElem.1 hx
  exact ⟨i, hi, by rw [Y3 hi]; exact h⟩
theorem Yc {α : Type} {d : α} {xs : List α} {p : α -> Bool} {g : Option Int} (h : (∃ j, j < xs.length /\ p (xs.getD j d) = true /\ (∀ i, i < j -> p (xs.getD i d) = false) /\ g = some (j : Int)) \/ ((∀ i, i < xs.length -> p (xs.getD i d) = false) /\ g = some (-1))) : (g.bind fun r => some (decide (r >= 0))) = some (xs.any p) := by
 rcases h with ⟨j, h1, h2, _, rfl⟩ | ⟨h1, rfl⟩
 ·rw [(Y3g d).1 ⟨j, h1, h2⟩]
  simp
 ·have : xs.any p = false := by
   rw [Bool.eq_false_iff]
   intro h
   obtain ⟨j, hj, h2⟩ := (Y3g d).2 h
   rw [h1 j hj] at h2; simp at h2
  rw [this]; rfl
theorem Y4p {v : List Int} (hv : v.length <= 1048576) (hN : 1048576 < N) : Z5s N v = some (validVals v) := by
 unfold Z5s Z0f Z0j Z2z
 rw [Yc (d := (0 : Int)) (xs := v) (p := fun x => !decide (0 <= x /\ x <= 9)) (first (n := v.length) (fun j => !decide (0 <= v.getD j 0 /\ v.getD j 0 <= 9)) (fun k i => Z0e N k v (v.length : Int) i) (fun k => by simp [Z0e, Z15]) (fun k j hj => ?_) (by omega))]
 ·simp only [Option.bind_some, validVals]
  rw [show (v.any fun x => !decide (0 <= x /\ x <= 9)) = !(v.all fun x => decide (0 <= x /\ x <= 9)) from (List.not_all_eq_any_not (l := v) (p := fun x => decide (0 <= x /\ x <= 9))).symm, Bool.not_not]
 ·have h1 : (j : Int) < (v.length : Int) := by omega
  simp only [Z0e, Z15, h1, decide_true, cond_true, Y1 hj, grd_true, Y2 hj, Z5f, Yr, Option.bind_some, Y3 hj, Y0 (j := j) (by omega)]
  cases decide (0 <= v[j] /\ v[j] <= 9) <;> rfl
theorem Y4q {l : List Rel} {f : Fact} (hl : l.length <= 1048576) (hf : f.2.length <= 1048576) (hN : 1048576 < N) : Z7o N l f = some (fact1 l f) := by
 obtain ⟨r, v⟩ := f
 simp only [Z7o, Yr, Option.bind_some, fact1]
 rw [Y5 (by omega) (by omega)]
 by_cases h : 0 <= r /\ r <= (l.length : Int) - 1
 ·have h2 : r.toNat < l.length := by omega
  simp only [h, and_self, decide_true, cond_true, Yb h.1 (show r < l.length by omega), grd_true, Y4e h.1 (show r < l.length by omega), beqI, Y3 h2, Bool.true_and]
  simp only at hf
  rw [Y4p hf hN]
  cases decide ((v.length : Int) = l[r.toNat].2.1) <;> rfl
 ·simp only [h, decide_false, cond_false, Bool.false_and]
def factAt (d : Db) (j : Nat) : Fact := d.2.getD j (0, [])
def factsOk (d : Db) : Prop := ∀ j, j < d.2.length -> (fact1 d.1 (factAt d j) && (decide (j = 0) || decide (cmpFacts (factAt d (j - 1)) (factAt d j) < 0))) = true
instance (d : Db) : Decidable (factsOk d) := by unfold factsOk; infer_instance
def validDb (d : Db) : Bool := validRels d.1 && (decide (d.2.length <= 14) && decide (factsOk d))
theorem Y1h {d : Db} (h : SmallDb d) (hN : 1048576 < N) : Z0g N d = some (validDb d) := by
 have hv : ∀ j, j < d.2.length -> (factAt d j).2.length <= 1048576 := fun j hj => by unfold factAt; rw [Y3 hj]; exact h.vals _ (List.getElem_mem hj)
 unfold Z0g Z7m
 rw [Y7 (n := d.2.length) (fun j => (validRels d.1 && fact1 d.1 (factAt d j)) && (decide (j = 0) || decide (cmpFacts (factAt d (j - 1)) (factAt d j) < 0))) (some false) (some (validRels d.1 && decide (d.2.length <= 14))) (fun k i => Z2r N k d.1 d.2 i)
  (fun k => by
   simp only [Z2r, Z4v, Int.lt_irrefl, decide_false, cond_false, Y22 h.rels hN, Option.bind_some]
   cases validRels d.1 with
   | false => rfl
   | true => simp only [cond_true, Bool.true_and, Option.some.injEq]; exact decide_eq_decide.2 (by omega)) (fun k j hj => ?_) (by have := h.facts; omega)]
 ·unfold validDb factsOk
  cases hr : validRels d.1 with
  | true =>
   simp only [Bool.true_and]
   by_cases h2 : ∀ j, j < d.2.length -> (fact1 d.1 (factAt d j) && (decide (j = 0) || decide (cmpFacts (factAt d (j - 1)) (factAt d j) < 0))) = true
   ·rw [if_pos h2, decide_eq_true h2, Bool.and_true]
   ·rw [if_neg h2, decide_eq_false h2, Bool.and_false]
  | false => simp
 ·have h1 : (j : Int) < (d.2.length : Int) := by omega
  have hf := h.facts
  have ha : at_ (0, []) d.2 (j : Int) = factAt d j := by unfold factAt; rw [Y2 hj, Y3 hj]
  simp only [Z2r, Z4v, h1, decide_true, cond_true, Y1 hj, grd_true, ha, Y19 h.rels (hv j hj) hN, Option.bind_some, Y0 (j := j) (by omega)]
  cases validRels d.1 && fact1 d.1 (factAt d j) with
  | false => rfl
  | true =>
   simp only [Bool.not_true, cond_false, Bool.true_and]
   by_cases h0 : j = 0
   ·subst h0; simp
   ·have h3 : (j : Int) > 0 := by omega
    have h4 : j - 1 < d.2.length := by omega
    have hb : at_ (0, []) d.2 ((j - 1 : Nat) : Int) = factAt d (j - 1) := by unfold factAt; rw [Y2 h4, Y3 h4]
    simp only [h3, decide_true, cond_true, Y9 (show 0 < j by omega) (by omega), Y1 h4, grd_true, hb, Y5t (hv _ h4) (hv _ hj) hN, Option.bind_some, h0, decide_false, Bool.false_or]
    by_cases h5 : cmpFacts (factAt d (j - 1)) (factAt d j) < 0
    ·have : ¬ cmpFacts (factAt d (j - 1)) (factAt d j) >= 0 := by omega
     simp [h5, this]
    ·have : cmpFacts (factAt d (j - 1)) (factAt d j) >= 0 := by omega
     simp [h5, this]
theorem Y3h {d : Db} (h : SmallDb d) (hN : 1048576 < N) : Z0u N d = some (validDb d) := by
 have hv : ∀ j, j < d.2.length -> (factAt d j).2.length <= 1048576 := fun j hj => by unfold factAt; rw [Y3 hj]; exact h.vals _ (List.getElem_mem hj)
 unfold Z0u Z7p
 rw [Y5f h.rels hN, Option.bind_some]
 unfold validDb
 cases validRels d.1 with
 | false => rfl
 | true =>
  simp only [Bool.not_true, cond_false, Bool.true_and]
  by_cases h14 : d.2.length <= 14
  ·have : ¬ (d.2.length : Int) > 14 := by omega
   simp only [this, decide_false, cond_false, h14, decide_true, Bool.true_and]
   rw [Y7 (n := d.2.length) (fun j => fact1 d.1 (factAt d j) && (decide (j = 0) || decide (cmpFacts (factAt d (j - 1)) (factAt d j) < 0))) (some false) (some true) (fun k i => Z2t N k d.1 d.2 d.2 (d.2.length : Int) i)
    (fun k => by simp [Z2t, Z4x]) (fun k j hj => ?_) (by omega)]
   ·unfold factsOk
    by_cases h2 : ∀ j, j < d.2.length -> (fact1 d.1 (factAt d j) && (decide (j = 0) || decide (cmpFacts (factAt d (j - 1)) (factAt d j) < 0))) = true
    ·rw [if_pos h2, decide_eq_true h2]
    ·rw [if_neg h2, decide_eq_false h2]
   ·have h1 : (j : Int) < (d.2.length : Int) := by omega
    have ha : at_ (0, []) d.2 (j : Int) = factAt d j := by unfold factAt; rw [Y2 hj, Y3 hj]
    simp only [Z2t, Z4x, h1, decide_true, cond_true, Y1 hj, grd_true, ha, Y4q h.rels (hv j hj) hN, Option.bind_some, Y0 (j := j) (by omega)]
    cases fact1 d.1 (factAt d j) with
    | false => rfl
    | true =>
     simp only [Bool.not_true, cond_false, Bool.true_and]
     by_cases h0 : j = 0
     ·subst h0; simp
     ·have h3 : (j : Int) > 0 := by omega
      have h4 : j - 1 < d.2.length := by omega
      have hb : at_ (0, []) d.2 ((j - 1 : Nat) : Int) = factAt d (j - 1) := by unfold factAt; rw [Y2 h4, Y3 h4]
      simp only [h3, decide_true, cond_true, Y9 (show 0 < j by omega) (by omega), Y1 h4, grd_true, hb, Y5u (hv _ h4) (hv _ hj) hN, Option.bind_some, h0, decide_false, Bool.false_or]
      by_cases h5 : cmpFacts (factAt d (j - 1)) (factAt d j) < 0
      ·have : ¬ cmpFacts (factAt d (j - 1)) (factAt d j) >= 0 := by omega
       simp [h5, this]
      ·have : cmpFacts (factAt d (j - 1)) (factAt d j) >= 0 := by omega
       simp [h5, this]
  ·have : (d.2.length : Int) > 14 := by omega
   simp [this, h14]
theorem Y1d : ∀ (a b c : List Int), cmpInts a b < 0 -> cmpInts b c < 0 -> cmpInts a c < 0
 | [], [], c, h, _ => by simp [cmpInts] at h
 | [], _ :: _, [], _, h => by simp [cmpInts] at h
 | [], _ :: _, _ :: _, _, _ => by simp [cmpInts]
 | _ :: _, [], c, h, _ => by simp [cmpInts] at h
 | _ :: _, _ :: _, [], _, h => by simp [cmpInts] at h
 | x :: a, y :: b, z :: c, h1, h2 => by
  simp only [cmpInts] at h1 h2 ⊢
  by_cases hxy : x < y
  ·by_cases hyz : y < z
   ·rw [if_pos (by omega)]; omega
   ·rw [if_neg hyz] at h2
    split at h2
    ·omega
    ·rw [if_pos (by omega)]; omega
  ·rw [if_neg hxy] at h1
   split at h1
   ·omega
   ·have : x = y := by omega
    subst this
    by_cases hyz : x < z
    ·rw [if_pos hyz]; omega
    ·rw [if_neg hyz] at h2 ⊢
     split at h2
     ·omega
     ·rename_i hg
      rw [if_neg hg]
      exact Y1d a b c h1 h2
theorem Y2h {a b c : Fact} (h1 : cmpFacts a b < 0) (h2 : cmpFacts b c < 0) : cmpFacts a c < 0 := by
 unfold cmpFacts at h1 h2 ⊢
 by_cases hab : a.1 < b.1
 ·by_cases hbc : b.1 < c.1
  ·rw [if_pos (by omega)]; omega
  ·rw [if_neg hbc] at h2
   split at h2
   ·omega
   ·rw [if_pos (by omega)]; omega
 ·rw [if_neg hab] at h1
  split at h1
  ·omega
  ·by_cases hbc : b.1 < c.1
   ·rw [if_pos (by omega)]; omega
   ·rw [if_neg hbc] at h2
    split at h2
    ·omega
    ·rw [if_neg (by omega), if_neg (by omega)]
     exact Y1d _ _ _ h1 h2
section
variable (S : Nat -> Nat -> Bool)
def blk (n s : Nat) : List Nat := (List.range n).filter (S s)
def isSt (s : Nat) : Bool := (List.range s).all fun k => !S s k
def sts (n : Nat) : List Nat := (List.range n).filter (isSt S)
def B (n : Nat) : List (List Nat) := (sts S n).map (blk S n)
variable {S}
end
def keyLen (l : List Rel) (f : Fact) : Int := (l.getD f.1.toNat (⟨#[]⟩, 0, 0)).2.2
def keyOf (l : List Rel) (f : Fact) : List Int := f.2.take (keyLen l f).toNat
def sameK (l : List Rel) (a b : Fact) : Bool := decide (a.1 = b.1) && decide (keyOf l a = keyOf l b)
theorem Y3i {r : Rel} (h : validRel r = true) : 0 <= r.2.2 /\ r.2.2 <= r.2.1 := by
 unfold validRel Z9 at h
 by_cases h1 : r.1.size = 1
 ·have hb : ∃ b, byteAt r.1 0 = some b := by
   unfold byteAt
   have : (0 : Int).toNat < r.1.size := by omega
   exact ⟨r.1[(0 : Int).toNat], by rw [if_pos (by omega), getElem?_pos]⟩
  obtain ⟨b, hb⟩ := hb
  rw [hb] at h
  simp only [Option.bind_some, l1In] at h
  by_cases h2 : 0 <= r.2.2 /\ r.2.2 <= r.2.1
  ·exact h2
  ·rw [decide_eq_false h2] at h
   exfalso
   revert h
   cases ((r.1.size : Int) == 1) <;> cases decide ((b.toNat : Int) >= 97) <;> cases decide ((b.toNat : Int) <= 122) <;> cases decide (1 <= r.2.1 /\ r.2.1 <= 3) <;> simp
 ·have h0 : ((r.1.size : Int) == 1) = false := by rw [beqI]; simp; omega
  rw [h0] at h
  simp at h
theorem Ys {l : List Rel} (h : validRels l = true) {j : Nat} (hj : j < l.length) : validRel (l.getD j (⟨#[]⟩, 0, 0)) = true := by
 have := (of_decide_eq_true h).1 j hj
 rw [Bool.and_eq_true] at this
 exact this.1
structure GoodFact (l : List Rel) (f : Fact) : Prop where
 lo : 0 <= f.1
 hi : f.1 < (l.length : Int)
 len : (f.2.length : Int) = (l.getD f.1.toNat (⟨#[]⟩, 0, 0)).2.1
 k0 : 0 <= keyLen l f
 k1 : keyLen l f <= (f.2.length : Int)
theorem Yt {l : List Rel} {f : Fact} (hl : validRels l = true) (hf : fact1 l f = true) : GoodFact l f := by
 unfold fact1 at hf
 rw [Bool.and_eq_true, Bool.and_eq_true, decide_eq_true_eq, decide_eq_true_eq] at hf
 obtain ⟨⟨h1, h2⟩, h3, h4⟩ := hf
 have := Y3i (Ys hl (j := f.1.toNat) (by omega))
 exact ⟨h1, by omega, h3, this.1, by rw [h3]; exact this.2⟩
theorem Y4r {a b : List Int} (ha : a.length <= 1048576) (hN : 1048576 < N) : Z2f N a b = some (decide (a = b)) := by
 unfold Z2f Z79
 by_cases hl : a.length = b.length
 ·have : ((a.length : Int) != (b.length : Int)) = false := by rw [bneI]; simp; omega
  rw [this, cond_false, Ye (n := a.length) (fun j => decide (a[j]? = b[j]?)) (fun k i => Z2e N k a b (a.length : Int) i) (fun k => by simp [Z2e, Z4f]) (fun k j hj => ?_) (by omega)]
  ·congr 1
   exact decide_eq_decide.2 (Y3u hl).symm
  ·have h1 : (j : Int) < (a.length : Int) := by omega
   have hjb : j < b.length := by omega
   simp only [Z2e, Z4f, h1, decide_true, cond_true, Y1 hj, Y1 hjb, grd_true, Y2 hj, Y2 hjb, Y0 (j := j) (by omega), bneI, List.getElem?_eq_getElem hj, List.getElem?_eq_getElem hjb, Option.some.injEq]
   by_cases h : a[j] = b[j] <;> simp [h]
 ·have : ((a.length : Int) != (b.length : Int)) = true := by rw [bneI]; simp; omega
  have hne : ¬ a = b := fun h => hl (by rw [h])
  rw [this, cond_true, decide_eq_false hne]
theorem Y1a {lo hi : Int} {n : Nat} (h1 : 0 <= lo) (h2 : lo <= hi) (h3 : hi <= (n : Int)) : subOk lo hi n = true := by
 unfold subOk; rw [decide_eq_true h1, decide_eq_true h2, decide_eq_true h3]; rfl
theorem Y6 {α : Type} {s x : List α} {b : Nat} (hb : b <= 1000) (h : s.length + x.length <= 140737488355) : appOk s x b = true := by
 unfold appOk
 refine decide_eq_true ?_
 calc (s.length + x.length) * b <= 140737488355 * 1000 := Nat.mul_le_mul h hb
  _ <= _ := by omega
theorem Y40 {l : List Rel} {f : Fact} (hl : l.length <= 1048576) (hf : f.2.length <= 1048576) (hN : 1048576 < N) (hv : validRels l = true) (h1 : fact1 l f = true) : Z7f N l f = some (keyOf l f) := by
 have g := Yt hv h1
 have e : (at_ (⟨#[]⟩, 0, 0) l f.1).2.2 = keyLen l f := rfl
 unfold Z7f
 rw [Y19 hl hf hN, hv, h1, Option.bind_some, Yb g.lo g.hi, grd_true]
 simp only [Bool.and_self, Bool.not_true, cond_false, e]
 rw [Y1a (by omega) g.k0 g.k1, grd_true, Y6 (by omega) (by simp only [List.length_nil, List.length_take]; omega), grd_true]
 rfl
theorem Y5h {l : List Rel} {a b : Fact} (hl : l.length <= 1048576) (ha : a.2.length <= 1048576) (hb : b.2.length <= 1048576) (hN : 1048576 < N) (hv : validRels l = true) (h1 : fact1 l a = true) (h2 : fact1 l b = true) : Z4l N l a b = some (sameK l a b) := by
 unfold Z4l sameK
 rw [Y19 hl ha hN, Y19 hl hb hN, hv, h1, h2]
 simp only [Bool.and_self, Option.bind_some, cond_true, beqI]
 by_cases h : a.1 = b.1
 ·rw [decide_eq_true h, cond_true, Y40 hl ha hN hv h1, Y40 hl hb hN hv h2, Option.bind_some, Option.bind_some,
   Y3f (by unfold keyOf; rw [List.length_take]; omega) (by unfold keyOf; rw [List.length_take]; omega) hN, Option.bind_some, Bool.true_and]
  congr 1
  exact decide_eq_decide.2 (Y2a _ _)
 ·rw [decide_eq_false h]; rfl
theorem Y5i {l : List Rel} {a b : Fact} (ha : a.2.length <= 1048576) (hb : b.2.length <= 1048576) (hN : 1048576 < N) (hv : validRels l = true) (h1 : fact1 l a = true) (h2 : fact1 l b = true) : Z70 N l a b = some (sameK l a b) := by
 have g := Yt hv h1
 have g' := Yt hv h2
 have e : (at_ (⟨#[]⟩, 0, 0) l a.1).2.2 = keyLen l a := rfl
 unfold Z70 sameK
 rw [bneI]
 by_cases h : a.1 = b.1
 ·have hk : keyLen l a = keyLen l b := by unfold keyLen; rw [h]
  rw [decide_eq_true h, Bool.not_true, cond_false, Yb g.lo g.hi, grd_true, e]
  rw [Y1a (by omega) g.k0 g.k1, grd_true, Y1a (by omega) g.k0 (by have := g'.k1; rw [<- hk] at this; exact this), grd_true, Y4r (by rw [List.length_take]; omega) hN, Option.bind_some, Bool.true_and]
  unfold keyOf
  rw [<- hk]
 ·rw [decide_eq_false h]; rfl
def sameD (d : Db) (i k : Nat) : Bool := sameK d.1 (factAt d i) (factAt d k)
structure ValidDb (d : Db) : Prop where
 rels : validRels d.1 = true
 few : d.2.length <= 14
 fact : ∀ j, j < d.2.length -> fact1 d.1 (factAt d j) = true
 lt : ∀ i k, i < k -> k < d.2.length -> cmpFacts (factAt d i) (factAt d k) < 0
theorem Y4 {d : Db} (h : validDb d = true) : ValidDb d := by
 unfold validDb at h
 rw [Bool.and_eq_true, Bool.and_eq_true, decide_eq_true_eq, decide_eq_true_eq] at h
 obtain ⟨h1, h2, h3⟩ := h
 refine ⟨h1, h2, fun j hj => ?_, ?_⟩
 ·have := h3 j hj
  rw [Bool.and_eq_true] at this
  exact this.1
 ·have step : ∀ j, 0 < j -> j < d.2.length -> cmpFacts (factAt d (j - 1)) (factAt d j) < 0 := by
   intro j h0 hj
   have := h3 j hj
   rw [Bool.and_eq_true, Bool.or_eq_true, decide_eq_true_eq, decide_eq_true_eq] at this
   rcases this.2 with h | h
   ·omega
   ·exact h
  intro i k
  induction k with
  | zero => intro h; omega
  | succ k ih =>
   intro hik hk
   have hs := step (k + 1) (by omega) hk
   rw [Nat.add_sub_cancel] at hs
   by_cases h : i = k
   ·subst h; exact hs
   ·exact Y2h (ih (by omega) (by omega)) hs
def validSet (n : Nat) (l : List Int) : Bool := decide (∀ j, j < l.length -> (decide (0 <= l.getD j 0 /\ l.getD j 0 <= (n : Int) - 1) && (decide (j = 0) || decide (l.getD (j - 1) 0 < l.getD j 0))) = true)
theorem Y5v {n : Nat} {l : List Int} (hn : n <= 1048576) (hl : l.length <= 1048576) (hN : 1048576 < N) : Z57 N l (n : Int) = some (validSet n l) := by
 unfold Z57 Z8n
 rw [Y7 (n := l.length) (fun j => decide (0 <= l.getD j 0 /\ l.getD j 0 <= (n : Int) - 1) && (decide (j = 0) || decide (l.getD (j - 1) 0 < l.getD j 0))) (some false) (some true) (fun k i => Z4s N k l (n : Int) l (l.length : Int) i)
  (fun k => by simp [Z4s, Z6q]) (fun k j hj => ?_) (by omega)]
 ·unfold validSet
  split
  ·rename_i h4; rw [decide_eq_true h4]
  ·rename_i h4; rw [decide_eq_false h4]
 ·have h1 : (j : Int) < (l.length : Int) := by omega
  simp only [Z4s, Z6q, h1, decide_true, cond_true, Y1 hj, grd_true, Y2 hj, Yr, Option.bind_some, Y3 hj, Y0 (j := j) (by omega), Y5 (show -9223372036854775808 <= (n : Int) - 1 by omega) (by omega)]
  cases decide (0 <= l[j] /\ l[j] <= (n : Int) - 1) with
  | false => rfl
  | true =>
   simp only [Bool.not_true, cond_false, Bool.true_and]
   by_cases h0 : j = 0
   ·subst h0; simp
   ·have h3 : (j : Int) > 0 := by omega
    have h4 : j - 1 < l.length := by omega
    simp only [h3, decide_true, cond_true, Y9 (show 0 < j by omega) (by omega), Y1 h4, grd_true, Y2 h4, h0, decide_false, Bool.false_or, Y3 h4]
    by_cases h5 : l[j - 1] < l[j]
    ·have : ¬ l[j - 1] >= l[j] := by omega
     simp [h5, this]
    ·have : l[j - 1] >= l[j] := by omega
     simp [h5, this]
theorem Yi {d : Db} {k : Nat} (hk : k < d.2.length) : at_ (0, []) d.2 (k : Int) = factAt d k := by unfold factAt; rw [Y2 hk, Y3 hk]
def one (p : Int -> Bool) (x : Int) : Int := if p x then 1 else 0
theorem Y1x {r : Rel} (h : validRel r = true) : 1 <= r.2.1 /\ r.2.1 <= 3 := by
 unfold validRel Z9 at h
 by_cases h1 : r.1.size = 1
 ·have hb : ∃ b, byteAt r.1 0 = some b := by
   unfold byteAt
   have : (0 : Int).toNat < r.1.size := by omega
   exact ⟨r.1[(0 : Int).toNat], by rw [if_pos (by omega), getElem?_pos]⟩
  obtain ⟨b, hb⟩ := hb
  rw [hb] at h
  simp only [Option.bind_some, l1In] at h
  by_cases h2 : 1 <= r.2.1 /\ r.2.1 <= 3
  ·exact h2
  ·rw [decide_eq_false h2] at h
   exfalso
   revert h
   cases ((r.1.size : Int) == 1) <;> cases decide ((b.toNat : Int) >= 97) <;> cases decide ((b.toNat : Int) <= 122) <;> simp
 ·have h0 : ((r.1.size : Int) == 1) = false := by rw [beqI]; simp; omega
  rw [h0] at h
  simp at h
abbrev Atm := Int × List Int
abbrev Qry := Int × List Atm × List Int
def arity (l : List Rel) (r : Int) : Int := (l.getD r.toNat (⟨#[]⟩, 0, 0)).2.1
def termsOk (n : Nat) (ts : List Int) : Bool := ts.all fun t => decide (-10 <= t /\ t <= (n : Int) - 1)
def atomAt (as : List Atm) (j : Nat) : Atm := as.getD j (0, [])
def newRel (as : List Atm) (j : Nat) : Bool := !((as.take j).any fun b => decide (b.1 = (atomAt as j).1))
def atomOk (l : List Rel) (n : Nat) (as : List Atm) (j : Nat) : Bool := decide (0 <= (atomAt as j).1 /\ (atomAt as j).1 <= (l.length : Int) - 1) && (decide (((atomAt as j).2.length : Int) = arity l (atomAt as j).1) && (newRel as j && termsOk n (atomAt as j).2))
def occB (as : List Atm) (v : Int) : Bool := as.any fun a => decide (v ∈ a.2)
def allOcc (n : Nat) (as : List Atm) : Bool := decide (∀ v, v < n -> occB as (v : Int) = true)
def atomsOk (l : List Rel) (n : Nat) (as : List Atm) : Bool := decide (∀ j, j < as.length -> atomOk l n as j = true)
def validQ (l : List Rel) (q : Qry) : Bool := validRels l && (decide (0 <= q.1 /\ q.1 <= 4) && (decide (1 <= (q.2.1.length : Int) /\ (q.2.1.length : Int) <= 3) && (atomsOk l q.1.toNat q.2.1 && (allOcc q.1.toNat q.2.1 && validSet q.1.toNat q.2.2))))
def queryFor (d : Db) (q : Qry) : Bool := validDb d && validQ d.1 q
theorem Yu {β R : Type} {n m B lo : Nat} (piece : Nat -> List β) {f : Nat -> List β -> Int -> Option R} {g : List β -> Option R} (hp : ∀ j, (piece j).length <= m) (hend : ∀ k out, f (k + 1) out (n : Int) = g out)
  (hstep : ∀ k out j, lo <= j -> j < n -> out.length <= B -> f (k + 1) out (j : Int) = f k (out ++ piece j) ((j + 1 : Nat) : Int)) : ∀ {k j : Nat} {out : List β}, n - j < k -> lo <= j -> j <= n -> out.length + (n - j) * m <= B -> f k out (j : Int) = g (out ++ (List.range' j (n - j)).flatMap piece)
 | 0, j, out, hk, hlo, hj, hB => by omega
 | k + 1, j, out, hk, hlo, hj, hB => by
  by_cases h : j < n
  ·have e : n - j = (n - (j + 1)) + 1 := by omega
   rw [e, Nat.add_mul] at hB
   have := hp j
   rw [hstep k out j hlo h (by omega), Yu piece hp hend hstep (by omega) (by omega) (by omega) (by rw [List.length_append]; omega)]
   rw [e, List.range'_succ, List.flatMap_cons, List.append_assoc]
  ·have : j = n := by omega
   subst this
   rw [hend, Nat.sub_self]; simp
abbrev Con := Int × Int × Int × Int × Int × Int × Int
def arOf (d : Db) (r : Int) : Int := (d.1.getD r.toNat (⟨#[]⟩, 0, 0)).2.1
def inR (x a b : Int) : Bool := decide (a <= x /\ x <= b)
def conOk (d : Db) (x : Con) : Bool := inR x.1 0 ((d.1.length : Int) - 1) && (inR x.2.1 0 ((d.1.length : Int) - 1) && (inR x.2.2.1 0 (arOf d x.1 - 1) && (inR x.2.2.2.2.1 0 (arOf d x.1 - 1) && (inR x.2.2.2.1 0 (arOf d x.2.1 - 1) && (inR x.2.2.2.2.2.1 0 (arOf d x.2.1 - 1) && inR x.2.2.2.2.2.2 1 2)))))
theorem Yg {x a b : Int} (h : inR x a b = true) : a <= x /\ x <= b := by simpa [inR] using h
theorem Y41 {d : Db} {x : Con} (h : SmallDb d) (hvb : validDb d = true) (hN : 1048576 < N) : Z1f N d x = some (conOk d x) := by
 have hr := h.rels
 have hv := Y4 hvb
 unfold Z1f conOk
 rw [Y1h h hN, hvb, Option.bind_some]
 simp only [Bool.not_true, cond_false, l1In, Option.bind_some]
 rw [Y5 (x := (d.1.length : Int) - 1) (by omega) (by omega)]
 rw [show ∀ a b c : Int, decide (a <= b /\ b <= c) = inR b a c from fun _ _ _ => rfl, show ∀ a b c : Int, decide (a <= b /\ b <= c) = inR b a c from fun _ _ _ => rfl]
 cases h1 : inR x.1 0 ((d.1.length : Int) - 1) with
 | false => rfl
 | true =>
  cases h2 : inR x.2.1 0 ((d.1.length : Int) - 1) with
  | false => rfl
  | true =>
   have i1 := Yg h1
   have i2 := Yg h2
   have a1 := Y1x (Ys hv.rels (j := x.1.toNat) (by omega))
   have a2 := Y1x (Ys hv.rels (j := x.2.1.toNat) (by omega))
   simp only [Bool.not_true, cond_false, Yb i1.1 (show x.1 < (d.1.length : Int) by omega), Yb i2.1 (show x.2.1 < (d.1.length : Int) by omega), grd_true]
   rw [show (at_ (⟨#[]⟩, (0, 0)) d.1 x.1).2.1 = arOf d x.1 from rfl, show (at_ (⟨#[]⟩, (0, 0)) d.1 x.2.1).2.1 = arOf d x.2.1 from rfl]
   have b1 : 1 <= arOf d x.1 /\ arOf d x.1 <= 3 := a1
   have b2 : 1 <= arOf d x.2.1 /\ arOf d x.2.1 <= 3 := a2
   rw [Y5 (x := arOf d x.1 - 1) (by omega) (by omega), Y5 (x := arOf d x.2.1 - 1) (by omega) (by omega)]
   simp only [inR, Bool.true_and]
   cases decide (0 <= x.2.2.1 /\ x.2.2.1 <= arOf d x.1 - 1) <;> cases decide (0 <= x.2.2.2.2.1 /\ x.2.2.2.2.1 <= arOf d x.1 - 1) <;> cases decide (0 <= x.2.2.2.1 /\ x.2.2.2.1 <= arOf d x.2.1 - 1) <;> cases decide (0 <= x.2.2.2.2.2.1 /\ x.2.2.2.2.2.1 <= arOf d x.2.1 - 1) <;> rfl
theorem Y5w {d : Db} {x : Con} (h : SmallDb d) (hvb : validDb d = true) (hN : 1048576 < N) : Z1z N d x = some (conOk d x) := by
 rw [<- Y41 h hvb hN]
 unfold Z1z Z1f
 rw [Y1h h hN, Y3h h hN]
 simp only [Yr, l1In]
def viol (d : Db) (x : Con) (i k : Nat) : Bool := conOk d x && (decide ((factAt d i).1 = x.1) && (decide ((factAt d k).1 = x.2.1) && (decide (at_ 0 (factAt d i).2 x.2.2.1 = at_ 0 (factAt d k).2 x.2.2.2.1) &&
 (if x.2.2.2.2.2.2 = 1 then decide (at_ 0 (factAt d i).2 x.2.2.2.2.1 = at_ 0 (factAt d k).2 x.2.2.2.2.2.1) else decide (at_ 0 (factAt d i).2 x.2.2.2.2.1 < at_ 0 (factAt d k).2 x.2.2.2.2.2.1)))))
theorem Y42 {d : Db} (hv : ValidDb d) {x : Con} (hc : conOk d x = true) {i k : Nat} (hi : i < d.2.length) (hk : k < d.2.length) (h1 : (factAt d i).1 = x.1) (h2 : (factAt d k).1 = x.2.1) :
  inb x.2.2.1 (factAt d i).2 = true /\ inb x.2.2.2.2.1 (factAt d i).2 = true /\ inb x.2.2.2.1 (factAt d k).2 = true /\ inb x.2.2.2.2.2.1 (factAt d k).2 = true /\ (x.2.2.2.2.2.2 = 1 \/ x.2.2.2.2.2.2 = 2) := by
 unfold conOk at hc
 simp only [Bool.and_eq_true] at hc
 obtain ⟨_, _, c3, c4, c5, c6, c7⟩ := hc
 have i3 := Yg c3
 have i4 := Yg c4
 have i5 := Yg c5
 have i6 := Yg c6
 have i7 := Yg c7
 have l1 := (Yt hv.rels (hv.fact i hi)).len
 have l2 := (Yt hv.rels (hv.fact k hk)).len
 rw [h1] at l1
 rw [h2] at l2
 have l1 : ((factAt d i).2.length : Int) = arOf d x.1 := l1
 have l2 : ((factAt d k).2.length : Int) = arOf d x.2.1 := l2
 exact ⟨Yb i3.1 (by omega), Yb i4.1 (by omega), Yb i5.1 (by omega), Yb i6.1 (by omega), by omega⟩
theorem Y23 {d : Db} {x : Con} (h : SmallDb d) (hvb : validDb d = true) (hN : 1048576 < N) {i k : Nat} (hi : i < d.2.length) (hk : k < d.2.length) (hne : i ≠ k) : Z1b N d x i k = some (viol d x i k) := by
 have hf := h.facts
 have hv := Y4 hvb
 unfold Z1b viol
 rw [Y41 h hvb hN, Option.bind_some]
 cases hc : conOk d x with
 | false => rfl
 | true =>
  have e1 : (0 : Int) <= (i : Int) /\ (i : Int) <= (d.2.length : Int) - 1 := by omega
  have e2 : (0 : Int) <= (k : Int) /\ (k : Int) <= (d.2.length : Int) - 1 := by omega
  have e3 : ((i : Int) == (k : Int)) = false := by rw [beqI]; exact decide_eq_false (by omega)
  simp only [Bool.not_true, cond_false, l1In, Option.bind_some, Bool.true_and]
  rw [Y5 (x := (d.2.length : Int) - 1) (by omega) (by omega), decide_eq_true e1, decide_eq_true e2, e3]
  simp only [Bool.not_true, cond_false, Y1 hi, Y1 hk, grd_true, Yi hi, Yi hk, bneI]
  by_cases h1 : (factAt d i).1 = x.1
  ·by_cases h2 : (factAt d k).1 = x.2.1
   ·obtain ⟨k1, k2, k3, k4, k5⟩ := Y42 hv hc hi hk h1 h2
    simp only [h1, h2, decide_true, Bool.not_true, cond_false, k1, k2, k3, k4, grd_true, Bool.true_and]
    by_cases h3 : at_ 0 (factAt d i).2 x.2.2.1 = at_ 0 (factAt d k).2 x.2.2.2.1
    ·simp only [h3, decide_true, Bool.not_true, cond_false, Bool.true_and]
     by_cases h4 : x.2.2.2.2.2.2 = 1
     ·simp only [h4, if_true, beqI, decide_true, cond_true]
     ·simp only [h4, if_false, beqI, decide_false, cond_false]
    ·simp only [h3, decide_false, Bool.not_false, cond_true, Bool.false_and]
   ·simp only [h1, h2, decide_true, decide_false, Bool.not_true, Bool.not_false, cond_false, cond_true, Bool.false_and, Bool.true_and]
  ·simp only [h1, decide_false, Bool.not_false, cond_true, Bool.false_and]
theorem Y3j {d : Db} {x : Con} (h : SmallDb d) (hvb : validDb d = true) (hN : 1048576 < N) {i k : Nat} (hi : i < d.2.length) (hk : k < d.2.length) (hne : i ≠ k) : Z1c N d x i k = some (viol d x i k) := by
 have hf := h.facts
 have hv := Y4 hvb
 unfold Z1c viol
 rw [Y5w h hvb hN, Option.bind_some]
 cases hc : conOk d x with
 | false => rfl
 | true =>
  have e1 : (0 : Int) <= (i : Int) /\ (i : Int) <= (d.2.length : Int) - 1 := by omega
  have e2 : (0 : Int) <= (k : Int) /\ (k : Int) <= (d.2.length : Int) - 1 := by omega
  have e3 : ((i : Int) != (k : Int)) = true := by rw [bneI, decide_eq_false (by omega)]; rfl
  simp only [cond_true, Yr, Option.bind_some, Bool.true_and, e3]
  rw [Y5 (x := (d.2.length : Int) - 1) (by omega) (by omega), decide_eq_true e1, decide_eq_true e2]
  simp only [cond_true, Y1 hi, Y1 hk, grd_true, Yi hi, Yi hk]
  have bb : ∀ o : Option Bool, (o.bind fun r4 => some r4) = o := fun o => by cases o <;> rfl
  rw [bb]
  unfold Z7e
  simp only [bneI]
  by_cases h1 : (factAt d i).1 = x.1
  ·by_cases h2 : (factAt d k).1 = x.2.1
   ·obtain ⟨k1, k2, k3, k4, k5⟩ := Y42 hv hc hi hk h1 h2
    simp only [h1, h2, decide_true, Bool.not_true, cond_false, k1, k2, k3, k4, grd_true, Bool.true_and]
    by_cases h3 : at_ 0 (factAt d i).2 x.2.2.1 = at_ 0 (factAt d k).2 x.2.2.2.1
    ·simp only [h3, decide_true, Bool.not_true, cond_false, Bool.true_and]
     rcases k5 with k5 | k5
     ·simp only [k5, if_true, beqI, decide_true, cond_true]
      by_cases h5 : at_ 0 (factAt d i).2 x.2.2.2.2.1 = at_ 0 (factAt d k).2 x.2.2.2.2.2.1
      ·simp [h5]
      ·simp [h5]
     ·simp [k5, beqI]
    ·simp only [h3, decide_false, Bool.not_false, cond_true, Bool.false_and]
   ·simp only [h1, h2, decide_true, decide_false, Bool.not_true, Bool.not_false, cond_false, cond_true, Bool.false_and, Bool.true_and]
  ·simp only [h1, decide_false, Bool.not_false, cond_true, Bool.false_and]
theorem Y3k (s : List Int) (v : Int) : (s.any fun x => decide (v = x)) = decide (v ∈ s) := by
 induction s with
 | nil => rfl
 | cons x s ih => simp only [List.any_cons, ih, List.mem_cons, Bool.decide_or]
theorem Y1p {s : List Int} {v : Int} (hs : s.length <= 1048576) (hN : 1048576 < N) : Z5 N s v = some (decide (v ∈ s)) := by
 unfold Z5 Z3h Z7b
 rw [Yc (d := (0 : Int)) (xs := s) (p := fun x => decide (v = x)) (first (n := s.length) (fun j => decide (v = s.getD j 0)) (fun k i => Z2i N k s v (s.length : Int) i) (fun k => by simp [Z2i, Z4h]) (fun k j hj => ?_) (by omega)), Y3k]
 have h1 : (j : Int) < (s.length : Int) := by omega
 simp only [Z2i, Z4h, h1, decide_true, cond_true, Y1 hj, grd_true, Y2 hj, Y3 hj, Y0 (j := j) (by omega), beqI]
 cases decide (v = s[j]) <;> rfl
theorem Y2i {s : List Int} {v : Int} (hs : s.length <= 1048576) (hN : 1048576 < N) : Z4e N s v = some (decide (v ∈ s)) := by
 unfold Z4e Z9w
 rw [Y7 (n := s.length) (fun j => !decide (s.getD j 0 = v)) (some true) (some false) (fun k i => Z7d N k s v i) (fun k => by simp [Z7d, Z8f]) (fun k j hj => ?_) (by omega)]
 ·by_cases h : v ∈ s
  ·rw [decide_eq_true h]
   obtain ⟨j, hj, rfl⟩ := List.mem_iff_getElem.1 h
   rw [if_neg (fun h' => by have := h' j hj; rw [Y3 hj] at this; simp at this)]
  ·rw [decide_eq_false h, if_pos (fun j hj => by
    rw [Y3 hj]
    have : ¬ s[j] = v := fun e => h (e ▸ List.getElem_mem hj)
    simp [this])]
 ·have h1 : (j : Int) < (s.length : Int) := by omega
  simp only [Z7d, Z8f, h1, decide_true, cond_true, Y1 hj, grd_true, Y2 hj, Y3 hj, Y0 (j := j) (by omega), beqI]
  cases decide (s[j] = v) <;> simp
structure Good (n : Int) (c : List Int) : Prop where
 lit : ∀ x ∈ c, x ≠ 0 /\ -n <= x /\ x <= n
 one : c.Pairwise fun x y => x ≠ y /\ x ≠ -y
theorem Y3l : ∀ (n : Nat) (l : List Nat), l.Nodup -> (∀ x ∈ l, 1 <= x /\ x <= n) -> l.length <= n
 | 0, l, _, h => by
  cases l with
  | nil => simp
  | cons x l => have := h x (by simp); omega
 | n + 1, l, hn, h => by
  have := Y3l n (l.erase (n + 1)) (hn.erase _) (fun x hx => by
   have h1 := (hn.mem_erase_iff).1 hx
   have := h x h1.2
   have := h1.1
   omega)
  rw [List.length_erase] at this
  split at this <;> omega
theorem Good.few {n : Int} {c : List Int} (h0 : 0 <= n) (h : Good n c) : (c.length : Int) <= n := by
 have := Y3l n.toNat (c.map Int.natAbs) (by
  unfold List.Nodup
  rw [List.pairwise_map]
  exact h.one.imp (fun {x y} hxy e => by omega)) (fun x hx => by
  obtain ⟨y, hy, rfl⟩ := List.mem_map.1 hx
  have := h.lit y hy
  omega)
 rw [List.length_map] at this
 omega
theorem Y5x {d : Db} (h : b_Database d) : SmallDb d := ⟨h.1.1, h.2.1, fun f hf => h.2.2 f hf⟩
def vany (d : Db) (l : List Con) (i k : Nat) : Bool := l.any fun x => viol d x i k || viol d x k i
def edge (d : Db) (l : List Con) (i k : Nat) : Bool := sameD d i k || vany d l i k
def edgeP (d : Db) (l : List Con) (i k : Nat) : List (Int × Int) := if edge d l i k then [((i : Int), (k : Int))] else []
def edgeR (d : Db) (l : List Con) (i : Nat) : List (Int × Int) := (List.range' (i + 1) (d.2.length - (i + 1))).flatMap (edgeP d l i)
def edgesOf (d : Db) (l : List Con) : List (Int × Int) := (List.range d.2.length).flatMap (edgeR d l)
theorem Y1i (d : Db) (l : List Con) (i k : Nat) : (edgeP d l i k).length <= 1 := by unfold edgeP; split <;> simp
theorem Y1j {β : Type} {piece : Nat -> List β} {m : Nat} (h : ∀ k, (piece k).length <= m) (s n : Nat) : ((List.range' s n).flatMap piece).length <= n * m := by
 have := Yz (piece := piece) (n := m) (a := List.range' s n) (fun x _ => h x)
 simpa using this
theorem Y1k {d : Db} (hv : ValidDb d) (l : List Con) (i : Nat) : (edgeR d l i).length <= 14 := by
 have := Y1j (Y1i d l i) (i + 1) (d.2.length - (i + 1))
 have := hv.few
 unfold edgeR; omega
theorem Y4s {d : Db} (hv : ValidDb d) (l : List Con) : (edgesOf d l).length <= 196 := by
 have := Yz (piece := edgeR d l) (n := 14) (a := List.range d.2.length) (fun x _ => Y1k hv l x)
 have := hv.few
 simp only [List.length_range] at *
 unfold edgesOf
 omega
theorem Y24 {α : Type} {l : List α} {p : α -> Bool} {j : Nat} (h : j < l.length) : (l.drop j).any p = (p l[j] || (l.drop (j + 1)).any p) := by rw [List.drop_eq_getElem_cons h, List.any_cons]
theorem Yo {d : Db} {k : Nat} (hk : k < d.2.length) : factAt d k ∈ d.2 := by unfold factAt; rw [Y3 hk]; exact List.getElem_mem hk
theorem Yw {N : Nat} {d : Db} {l : List Con} (h : SmallDb d) (hl : l.length <= 1048576) (hvb : validDb d = true) (hN : 1048576 < N) {i k : Nat} (hik : i < k) (hk : k < d.2.length) (Rc : List Con -> List Rel -> List Fact -> List (Int × Int) -> Int -> Int -> Option (List (Int × Int))) {out : List (Int × Int)} (ho : out.length <= 1000) :
  ∀ {f j : Nat} {is_ : Bool}, l.length - j < f -> j <= l.length -> Z3d Rc N f l d.1 d.2 out i k is_ (j : Int) = Rc l d.1 d.2 (out ++ (if is_ || (l.drop j).any (fun x => viol d x i k || viol d x k i) then [((i : Int), (k : Int))] else [])) i ((k + 1 : Nat) : Int)
 | 0, j, is_, hf, hj => by omega
 | f + 1, j, is_, hf, hj => by
  have few := (Y4 hvb).few
  by_cases hlt : j < l.length
  ·have h1 : (j : Int) < (l.length : Int) := by omega
   simp only [Z3d, Z5k, h1, decide_true, cond_true, Y0 (j := j) (by omega), Y1 hlt, grd_true, Y2 hlt]
   rw [Y24 hlt]
   cases is_ with
   | true =>
    rw [cond_true, Yw h hl hvb hN hik hk Rc ho (by omega) (by omega)]
    simp
   | false =>
    have v1 := Y23 (x := l[j]) h hvb hN (i := i) (k := k) (by omega) hk (by omega)
    have v2 := Y23 (x := l[j]) h hvb hN (i := k) (k := i) hk (by omega) (by omega)
    rw [cond_false]
    erw [v1]
    rw [Option.bind_some]
    cases hv1 : viol d l[j] i k with
    | true =>
     rw [cond_true, Yw h hl hvb hN hik hk Rc ho (by omega) (by omega)]
     simp
    | false =>
     rw [cond_false]
     erw [v2]
     rw [Option.bind_some, Yw h hl hvb hN hik hk Rc ho (by omega) (by omega)]
     simp only [Bool.false_or]
  ·have : j = l.length := by omega
   subst this
   have h1 : ¬ (l.length : Int) < (l.length : Int) := by omega
   simp only [Z3d, Z5k, h1, decide_false, cond_false, Y0 (j := k) (by omega), List.drop_length, List.any_nil, Bool.or_false]
   cases is_ with
   | true =>
    have : appOk out [((i : Int), (k : Int))] 16 = true := Y3e (by simp only [List.length_singleton]; omega)
    rw [cond_true, this, grd_true, if_pos rfl]
   | false => simp
theorem Y4t {d : Db} {l : List Con} (h : SmallDb d) (hl : l.length <= 1048576) (hvb : validDb d = true) (hN : 1048576 < N) {i : Nat} (hi : i < d.2.length) (R0 : List Con -> List Rel -> List Fact -> List (Int × Int) -> Int -> Option (List (Int × Int))) {out : List (Int × Int)} (ho : out.length <= 500) :
  Z16 R0 N N l d.1 d.2 out i ((i + 1 : Nat) : Int) = R0 l d.1 d.2 (out ++ edgeR d l i) ((i + 1 : Nat) : Int) := by
 have few := (Y4 hvb).few
 have hv := Y4 hvb
 refine Yu (n := d.2.length) (m := 1) (B := 1000) (edgeP d l i) (f := fun k out j => Z16 R0 N k l d.1 d.2 out i j) (g := fun out => R0 l d.1 d.2 out ((i + 1 : Nat) : Int)) (Y1i d l i) (fun k out => by
  have h1 : ¬ (d.2.length : Int) < (d.2.length : Int) := by omega
  simp only [Z16, Z5l, h1, decide_false, cond_false, Y0 (j := i) (by omega)]) (lo := i + 1) (fun f out k hik hk hB => ?_) (by omega) (by omega) (by omega) (by omega)
 have hik : i < k := hik
 have h1 : (k : Int) < (d.2.length : Int) := by omega
 simp only [Z16, Z5l, h1, decide_true, cond_true, Y1 hi, Y1 hk, grd_true, Yi hi, Yi hk]
 rw [Y5h h.rels (h.vals _ (Yo hi)) (h.vals _ (Yo hk)) hN hv.rels (hv.fact i hi) (hv.fact k hk), Option.bind_some]
 have := Yw h hl hvb hN hik hk (Z16 R0 N f) hB (f := N) (j := 0) (is_ := sameK d.1 (factAt d i) (factAt d k)) (by omega) (by omega)
 rw [show ((0 : Nat) : Int) = 0 from rfl] at this
 rw [this, List.drop_zero]
 rfl
theorem Y4u {d : Db} {l : List Con} (h : SmallDb d) (hl : l.length <= 1048576) (hN : 1048576 < N) : Z3n N d l = some (if validDb d then edgesOf d l else []) := by
 have hf := h.facts
 unfold Z3n Z84
 cases hvb : validDb d with
 | false =>
  obtain ⟨n, rfl⟩ : ∃ n, N = n + 1 := ⟨N - 1, by omega⟩
  simp only [Z1m, Z3s]
  have := Y1h h hN
  rw [hvb] at this
  have this : Z0g (n + 1) (d.1, d.2) = some false := this
  rw [this]
  by_cases h0 : (0 : Int) < (d.2.length : Int)
  ·rw [decide_eq_true h0]; rfl
  ·rw [decide_eq_false h0]; rfl
 | true =>
  have hv := Y4 hvb
  have few := hv.few
  rw [if_pos rfl]
  have := Yu (n := d.2.length) (m := 14) (B := 400) (lo := 0) (edgeR d l) (f := fun k out j => Z1m N k l d.1 d.2 out j) (g := fun out => some out) (Y1k hv l) (fun k out => by
   have h1 : ¬ (d.2.length : Int) < (d.2.length : Int) := by omega
   simp only [Z1m, Z3s, h1, decide_false, cond_false]) (fun f out i _ hi hB => by
   have h1 : (i : Int) < (d.2.length : Int) := by omega
   have hd := Y1h h hN
   rw [hvb] at hd
   have hd : Z0g N (d.1, d.2) = some true := hd
   simp only [Z1m, Z3s, h1, decide_true, cond_true, hd, Option.bind_some, Y0 (j := i) (by omega)]
   rw [Y4t h hl hvb hN hi _ (by omega)]) (k := N) (j := 0) (out := []) (by omega) (by omega) (by omega) (by simp only [List.length_nil]; omega)
  rw [show ((0 : Nat) : Int) = 0 from rfl] at this
  rw [this, List.nil_append, Nat.sub_zero, <- List.range_eq_range']
  rfl
theorem Y4v {d : Db} {l : List Con} (h : SmallDb d) (hl : l.length <= 1048576) (hvb : validDb d = true) (hN : 1048576 < N) {i k : Nat} (hik : i < k) (hk : k < d.2.length) : Z2h N i k l d = some (edge d l i k) := by
 have hv := Y4 hvb
 have go : ∀ {f j : Nat}, l.length - j < f -> j <= l.length -> Z2g N f i k d.1 d.2 l (l.length : Int) (j : Int) = some ((l.drop j).any (fun x => viol d x i k || viol d x k i) || sameD d i k) := by
  intro f
  induction f with
  | zero => intro j hf hj; omega
  | succ f ih =>
   intro j hf hj
   by_cases hlt : j < l.length
   ·have h1 : (j : Int) < (l.length : Int) := by omega
    have v1 := Y23 (x := l[j]) h hvb hN (i := i) (k := k) (by omega) hk (by omega)
    have v1 := Y3j (x := l[j]) h hvb hN (i := i) (k := k) (by omega) hk (by omega)
    have v2 := Y3j (x := l[j]) h hvb hN (i := k) (k := i) hk (by omega) (by omega)
    simp only [Z2g, Z4g, h1, decide_true, cond_true, Y0 (j := j) (by omega), Y1 hlt, grd_true, Y2 hlt]
    rw [Y24 hlt]
    erw [v1]
    rw [Option.bind_some]
    cases hv1 : viol d l[j] i k with
    | true => simp
    | false =>
     rw [cond_false]
     erw [v2]
     rw [Option.bind_some]
     cases hv2 : viol d l[j] k i with
     | true => simp
     | false =>
      rw [cond_false, ih (by omega) (by omega)]
      simp only [Bool.false_or]
   ·have : j = l.length := by omega
    subst this
    have h1 : ¬ (l.length : Int) < (l.length : Int) := by omega
    have hi : i < d.2.length := by omega
    simp only [Z2g, Z4g, h1, decide_false, cond_false, List.drop_length, List.any_nil, Bool.false_or, Y1 hi, Y1 hk, grd_true, Yi hi, Yi hk]
    rw [Y5i (h.vals _ (Yo hi)) (h.vals _ (Yo hk)) hN hv.rels (hv.fact i hi) (hv.fact k hk)]
    rfl
 unfold Z2h Z7a
 have := go (f := N) (j := 0) (by omega) (by omega)
 rw [show ((0 : Nat) : Int) = 0 from rfl] at this
 rw [this, List.drop_zero, Bool.or_comm]
 rfl
theorem Y4w {d : Db} {l : List Con} (h : SmallDb d) (hl : l.length <= 1048576) (hvb : validDb d = true) (hN : 1048576 < N) {i : Nat} (hi : i < d.2.length) (R0 : Int -> List Con -> Db -> List (Int × Int) -> Int -> Int -> Option (List (Int × Int))) {out : List (Int × Int)} (ho : out.length <= 500) :
  Z0v R0 N N (d.2.length : Int) l d out i ((i + 1 : Nat) : Int) (d.2.length : Int) i = R0 (d.2.length : Int) l d (out ++ edgeR d l i) (d.2.length : Int) ((i + 1 : Nat) : Int) := by
 have few := (Y4 hvb).few
 refine Yu (n := d.2.length) (m := 1) (B := 1000) (edgeP d l i) (f := fun k out j => Z0v R0 N k (d.2.length : Int) l d out i j (d.2.length : Int) i) (g := fun out => R0 (d.2.length : Int) l d out (d.2.length : Int) ((i + 1 : Nat) : Int)) (Y1i d l i) (fun k out => by
  have h1 : ¬ (d.2.length : Int) < (d.2.length : Int) := by omega
  simp only [Z0v, Z30, h1, decide_false, cond_false, Y0 (j := i) (by omega)]) (lo := i + 1) (fun f out k hik hk hB => ?_) (by omega) (by omega) (by omega) (by omega)
 have hik : i < k := hik
 have h1 : (k : Int) < (d.2.length : Int) := by omega
 simp only [Z0v, Z30, h1, decide_true, cond_true, Y4v h hl hvb hN hik hk, Option.bind_some, Y0 (j := k) (by omega)]
 unfold edgeP
 cases edge d l i k with
 | true =>
  have : appOk out [((i : Int), (k : Int))] 16 = true := Y3e (by simp only [List.length_singleton]; omega)
  rw [cond_true, this, grd_true, if_pos rfl]
 | false => simp
theorem Y4x {d : Db} {l : List Con} (h : SmallDb d) (hl : l.length <= 1048576) (hN : 1048576 < N) : Z3o N d l = some (if validDb d then edgesOf d l else []) := by
 have hf := h.facts
 unfold Z3o
 rw [Y3h h hN, Option.bind_some]
 cases hvb : validDb d with
 | false => rfl
 | true =>
  have hv := Y4 hvb
  have few := hv.few
  rw [if_pos rfl, Bool.not_true, cond_false]
  unfold Z1n Z5j
  have := Yu (n := d.2.length) (m := 14) (B := 400) (lo := 0) (edgeR d l) (f := fun k out j => Z0w N k (d.2.length : Int) l d out (d.2.length : Int) j) (g := fun out => some out) (Y1k hv l) (fun k out => by
   have h1 : ¬ (d.2.length : Int) < (d.2.length : Int) := by omega
   simp only [Z0w, Z31, h1, decide_false, cond_false]) (fun f out i _ hi hB => by
   have h1 : (i : Int) < (d.2.length : Int) := by omega
   simp only [Z0w, Z31, h1, decide_true, cond_true, Y0 (j := i) (by omega)]
   rw [Y4w h hl hvb hN hi _ (by omega)]) (k := N) (j := 0) (out := []) (by omega) (by omega) (by omega) (by simp only [List.length_nil]; omega)
  rw [show ((0 : Nat) : Int) = 0 from rfl] at this
  rw [this, Option.bind_some, List.nil_append, Nat.sub_zero, <- List.range_eq_range']
  rfl
structure EOk (n : Nat) (E : List (Int × Int)) : Prop where
 few : n <= 14
 len : E.length <= 196
 all : ∀ e ∈ E, 0 <= e.1 /\ e.1 < e.2 /\ e.2 < (n : Int)
def ordE (E : List (Int × Int)) (j : Nat) : Bool := decide (j = 0) || (let a := E.getD j (0, 0); let b := E.getD (j - 1) (0, 0); decide (b.1 < a.1) || (decide (b.1 = a.1) && decide (b.2 < a.2)))
def validE (E : List (Int × Int)) : Bool := decide (∀ j, j < E.length -> ordE E j = true)
theorem in14 {n : Nat} (h : n <= 14) : decide ((0 : Int) <= (n : Int) /\ (n : Int) <= 14) = true := decide_eq_true (by omega)
theorem Y3m {N n : Nat} {E : List (Int × Int)} (h : EOk n E) (hN : 1048576 < N) : Z10 N n E = some (validE E) := by
 have hf := h.few
 have hl := h.len
 unfold Z10 Z85
 rw [Y7 (n := E.length) (ordE E) (some false) (some true) (fun k i => Z3e N k n E i) (fun k => by simp [Z3e, Z5m, l1In]; omega) (fun k j hj => ?_) (by omega)]
 ·unfold validE
  split
  ·rename_i h4; rw [decide_eq_true h4]
  ·rename_i h4; rw [decide_eq_false h4]
 ·have h1 : (j : Int) < (E.length : Int) := by omega
  have h2 := h.all _ (List.getElem_mem hj)
  have e1 : decide (0 <= E[j].1 /\ E[j].1 <= E[j].2 - 1) = true := decide_eq_true (by omega)
  have e2 : decide (0 <= E[j].2 /\ E[j].2 <= (n : Int) - 1) = true := decide_eq_true (by omega)
  simp only [Z3e, Z5m, h1, decide_true, cond_true, Y1 hj, grd_true, Y2 hj, l1In, Option.bind_some, Y0 (j := j) (by omega), Y5 (x := E[j].2 - 1) (by omega) (by omega), Y5 (x := (n : Int) - 1) (by omega) (by omega), e1, e2, Bool.not_true, cond_false]
  by_cases h0 : j = 0
  ·subst h0; simp [ordE]
  ·have h3 : (j : Int) > 0 := by omega
   have h4 : j - 1 < E.length := by omega
   simp only [h3, decide_true, cond_true, Y9 (show 0 < j by omega) (by omega), Y1 h4, grd_true, Y2 h4, ordE, h0, decide_false, Bool.false_or, Y3 h4, Y3 hj, beqI]
   by_cases h5 : E[j].1 < E[j - 1].1
   ·have a1 : ¬ E[j - 1].1 < E[j].1 := by omega
    have a2 : ¬ E[j - 1].1 = E[j].1 := by omega
    simp [h5, a1, a2]
   ·by_cases h6 : E[j].1 = E[j - 1].1
    ·have a1 : ¬ E[j - 1].1 < E[j].1 := by omega
     by_cases h7 : E[j].2 <= E[j - 1].2
     ·have a2 : ¬ E[j - 1].2 < E[j].2 := by omega
      simp [h6, h7, a2]
     ·have a2 : E[j - 1].2 < E[j].2 := by omega
      simp [h6, h7, a2]
    ·have a1 : E[j - 1].1 < E[j].1 := by omega
     simp [h5, h6, a1]
theorem Y3n {N n : Nat} {E : List (Int × Int)} (h : EOk n E) (hN : 1048576 < N) : Z12 N n E = some (validE E) := by
 have hf := h.few
 have hl := h.len
 unfold Z12 Z89
 rw [Yr, Option.bind_some, in14 hf, Bool.not_true, cond_false]
 rw [Y7 (n := E.length) (ordE E) (some false) (some true) (fun k i => Z3g N k n E E (E.length : Int) i) (fun k => by simp [Z3g, Z5o]) (fun k j hj => ?_) (by omega)]
 ·unfold validE
  split
  ·rename_i h4; rw [decide_eq_true h4]
  ·rename_i h4; rw [decide_eq_false h4]
 ·have h1 : (j : Int) < (E.length : Int) := by omega
  have h2 := h.all _ (List.getElem_mem hj)
  have e1 : ¬ E[j].1 < 0 := by omega
  have e2 : ¬ E[j].1 >= E[j].2 := by omega
  have e3 : ¬ E[j].2 >= (n : Int) := by omega
  simp only [Z3g, Z5o, h1, decide_true, cond_true, Y1 hj, grd_true, Y2 hj, Y0 (j := j) (by omega), e1, e2, e3, decide_false, cond_false]
  by_cases h0 : j = 0
  ·subst h0; simp [ordE]
  ·have h3 : (j : Int) > 0 := by omega
   have h4 : j - 1 < E.length := by omega
   simp only [h3, decide_true, cond_true, Y9 (show 0 < j by omega) (by omega), Y1 h4, grd_true, Y2 h4, ordE, h0, decide_false, Bool.false_or, Y3 h4, Y3 hj, beqI]
   by_cases h5 : E[j - 1].1 > E[j].1
   ·have a1 : ¬ E[j - 1].1 < E[j].1 := by omega
    have a2 : ¬ E[j - 1].1 = E[j].1 := by omega
    simp [h5, a1, a2]
   ·by_cases h6 : E[j - 1].1 = E[j].1
    ·by_cases h7 : E[j - 1].2 >= E[j].2
     ·have a2 : ¬ E[j - 1].2 < E[j].2 := by omega
      simp [h6, h7, a2]
     ·have a2 : E[j - 1].2 < E[j].2 := by omega
      simp [h6, h7, a2]
    ·have a1 : E[j - 1].1 < E[j].1 := by omega
     simp [h5, h6, a1]
def indep (E : List (Int × Int)) (s : List Int) : Bool := E.all fun e => !(decide (e.1 ∈ s) && decide (e.2 ∈ s))
theorem Y25 {α : Type} {xs : List α} {p : α -> Bool} (d : α) : xs.all p = decide (∀ j, j < xs.length -> p (xs.getD j d) = true) := by
 rw [Bool.eq_iff_iff, decide_eq_true_eq, List.all_eq_true]
 constructor
 ·intro h j hj
  rw [Y3 hj]; exact h _ (List.getElem_mem hj)
 ·intro h x hx
  obtain ⟨j, hj, rfl⟩ := List.mem_iff_getElem.1 hx
  have := h j hj
  rwa [Y3 hj] at this
theorem Y43 {E : List (Int × Int)} {s : List Int} (he : E.length <= 196) (hs : s.length <= 1000) (hN : 1048576 < N) : Z1u N E s = some (indep E s) := by
 unfold Z1u Z87 indep
 rw [Y25 (0, 0), Y7 (n := E.length) (fun j => !(decide ((E.getD j (0, 0)).1 ∈ s) && decide ((E.getD j (0, 0)).2 ∈ s))) (some false) (some true) (fun k i => Z3f N k E s i) (fun k => by simp [Z3f, Z5n]) (fun k j hj => ?_) (by omega)]
 ·split
  ·rename_i h4; rw [decide_eq_true h4]
  ·rename_i h4; rw [decide_eq_false h4]
 ·have h1 : (j : Int) < (E.length : Int) := by omega
  simp only [Z3f, Z5n, h1, decide_true, cond_true, Y1 hj, grd_true, Y2 hj, Y3 hj, Y0 (j := j) (by omega), Y2i (s := s) (by omega) hN, Option.bind_some]
  cases decide (E[j].1 ∈ s) <;> cases decide (E[j].2 ∈ s) <;> rfl
theorem Y2j {E : List (Int × Int)} {s : List Int} (he : E.length <= 196) (hs : s.length <= 1000) (hN : 1048576 < N) : Z13 N E s = some (indep E s) := by
 unfold Z13 Z2 Z3 Z0r
 rw [Yc (d := ((0, 0) : Int × Int)) (xs := E) (p := fun e => decide (e.1 ∈ s) && decide (e.2 ∈ s)) (first (n := E.length) (fun j => decide ((E.getD j (0, 0)).1 ∈ s) && decide ((E.getD j (0, 0)).2 ∈ s)) (fun k i => Z1 N k E s (E.length : Int) i) (fun k => by simp [Z1, Z8]) (fun k j hj => ?_) (by omega)), Option.bind_some]
 ·unfold indep
  rw [List.all_eq_not_any_not]
  simp
 ·have h1 : (j : Int) < (E.length : Int) := by omega
  simp only [Z1, Z8, Z3i, h1, decide_true, cond_true, Y1 hj, grd_true, Y2 hj, Y3 hj, Y0 (j := j) (by omega), Y1p (s := s) (by omega) hN, Option.bind_some]
  cases decide (E[j].1 ∈ s) <;> cases decide (E[j].2 ∈ s) <;> rfl
def fitsE (E : List (Int × Int)) (s : List Int) (x : Int) : Bool := !decide (x ∈ s) && indep E (s ++ [x])
theorem Y3o {E : List (Int × Int)} {s : List Int} {x : Int} (he : E.length <= 196) (hs : s.length <= 900) (hN : 1048576 < N) : Z5z N E s x = some (fitsE E s x) := by
 unfold Z5z fitsE
 rw [Y2i (by omega) hN, Option.bind_some]
 cases decide (x ∈ s) with
 | true => rfl
 | false =>
  rw [Bool.not_false, cond_true, Y6 (by omega) (by simp only [List.length_nil]; omega), Y6 (by omega) (by simp only [List.length_singleton]; omega), Y43 he (by simp only [List.length_append, List.length_singleton]; omega) hN]
  rfl
theorem Y5j {N n : Nat} {l : List Int} (hn : n <= 1048576) (hl : l.length <= 1048576) (hN : 1048576 < N) : Z86 N n l = some (validSet n l) := by
 unfold Z86 Z9v
 rw [Y7 (n := l.length) (fun j => decide (0 <= l.getD j 0 /\ l.getD j 0 <= (n : Int) - 1) && (decide (j = 0) || decide (l.getD (j - 1) 0 < l.getD j 0))) (some false) (some true) (fun k i => Z7c N k (n : Int) l i)
  (fun k => by simp [Z7c, Z8e]) (fun k j hj => ?_) (by omega)]
 ·unfold validSet
  split
  ·rename_i h4; rw [decide_eq_true h4]
  ·rename_i h4; rw [decide_eq_false h4]
 ·have h1 : (j : Int) < (l.length : Int) := by omega
  simp only [Z7c, Z8e, h1, decide_true, cond_true, Y1 hj, grd_true, Y2 hj, l1In, Option.bind_some, Y3 hj, Y0 (j := j) (by omega), Y5 (show -9223372036854775808 <= (n : Int) - 1 by omega) (by omega)]
  cases decide (0 <= l[j] /\ l[j] <= (n : Int) - 1) with
  | false => rfl
  | true =>
   simp only [Bool.not_true, cond_false, Bool.true_and]
   by_cases h0 : j = 0
   ·subst h0; simp
   ·have h3 : (j : Int) > 0 := by omega
    have h4 : j - 1 < l.length := by omega
    simp only [h3, decide_true, cond_true, Y9 (show 0 < j by omega) (by omega), Y1 h4, grd_true, Y2 h4, h0, decide_false, Bool.false_or, Y3 h4]
    by_cases h5 : l[j - 1] < l[j]
    ·have : ¬ l[j] <= l[j - 1] := by omega
     simp [h5, this]
    ·have : l[j] <= l[j - 1] := by omega
     simp [h5, this]
def maxI (n : Nat) (E : List (Int × Int)) (s : List Int) : Bool := validE E && (validSet n s && (indep E s && decide (∀ x, x < n -> (!fitsE E s x) = true)))
theorem Y44 {N n : Nat} {E : List (Int × Int)} {s : List Int} (h : EOk n E) (hs : s.length <= 900) (hN : 1048576 < N) : Z0o N n E s = some (maxI n E s) := by
 have hf := h.few
 unfold Z0o Z61 maxI
 rw [Y3m h hN, Y5j (by omega) (by omega) hN, Y43 h.len (by omega) hN, Option.bind_some, Option.bind_some, Option.bind_some]
 cases validE E with
 | false => rfl
 | true =>
  cases validSet n s with
  | false => rfl
  | true =>
   cases indep E s with
   | false => rfl
   | true =>
    simp only [Bool.not_true, cond_false, Bool.true_and]
    refine Ye (n := n) (fun x => !fitsE E s x) (fun k i => Z1g N k n E s i) (fun k => by simp [Z1g, Z3b]) (fun k j hj => ?_) (by omega)
    have h1 : (j : Int) < (n : Int) := by omega
    simp only [Z1g, Z3b, h1, decide_true, cond_true, Y3o h.len hs hN, Option.bind_some, Y0 (j := j) (by omega)]
    cases fitsE E s j <;> simp
theorem Y45 {s : List Int} (hs : s.length <= 1000) : Z4r N s = some s := by
 unfold Z4r
 rw [decide_eq_true (by omega), grd_true]
theorem Y46 {N n : Nat} {E : List (Int × Int)} {s : List Int} (h : EOk n E) (hs : s.length <= 900) (hN : 1048576 < N) : Z0q N n E s = some (maxI n E s) := by
 have hf := h.few
 unfold Z0q Z64 Z3j maxI
 rw [Y3n h hN, Y5v (by omega) (by omega) hN, Y2j h.len (by omega) hN, Option.bind_some, Option.bind_some, Option.bind_some]
 cases validE E with
 | false => rfl
 | true =>
  cases validSet n s with
  | false => rfl
  | true =>
   cases indep E s with
   | false => rfl
   | true =>
    simp only [Bool.not_true, cond_false, cond_true, Option.bind_some, Bool.true_and]
    refine Ye (n := n) (fun x => !fitsE E s x) (fun k i => Z1h N k E s n i) (fun k => by simp [Z1h, Z3c]) (fun k j hj => ?_) (by omega)
    have h1 : (j : Int) < (n : Int) := by omega
    simp only [Z1h, Z3c, h1, decide_true, cond_true, Y1p (s := s) (by omega) hN, Option.bind_some, Y0 (j := j) (by omega), Y45 (N := N) (s := s) (by omega)]
    rw [Y6 (by omega) (by simp only [List.length_singleton]; omega), grd_true, Y2j h.len (by simp only [List.length_append, List.length_singleton]; omega) hN, Option.bind_some]
    unfold fitsE
    cases decide ((j : Int) ∈ s) <;> cases indep E (s ++ [(j : Int)]) <;> simp
def uni : List Int -> List Int -> List Int -> Option (List Int)
 | [], _, x => some x
 | _ :: _, [], _ => none
 | t :: ts, w :: ws, x => if t < 0 then (if -1 - t = w then uni ts ws x else none)
  else if x.getD t.toNat 0 >= 0 then (if x.getD t.toNat 0 = w then uni ts ws x else none)
  else uni ts ws (x.set t.toNat w)
def meetA (a : Atm) (f : Fact) (x : List Int) : Option (List Int) := if f.1 = a.1 then uni a.2 f.2 x else none
def emb (d : Db) (as : List Atm) : Nat -> Nat -> List Int -> List Int -> List (List Int × List Int)
 | 0, _, x, fs => [(x, fs)]
 | m + 1, k, x, fs => (List.range d.2.length).flatMap fun i => match meetA (atomAt as k) (factAt d i) x with
  | some y => emb d as m (k + 1) y (fs ++ [(i : Int)])
  | none => []
def embs (d : Db) (q : Qry) : List (List Int × List Int) := if queryFor d q then emb d q.2.1 q.2.1.length 0 (List.replicate q.1.toNat (-1)) [] else []
def walk (n : Nat) (E : List (Int × Int)) : Nat -> List Int -> Nat -> List (List Int)
 | 0, s, x => if maxI n E s then [s] else []
 | m + 1, s, x => (if indep E (s ++ [(x : Int)]) then walk n E m (s ++ [(x : Int)]) (x + 1) else []) ++ walk n E m s (x + 1)
theorem Yl {n : Nat} {E : List (Int × Int)} : ∀ (m : Nat) (s : List Int) (x : Nat), (walk n E m s x).length <= 2 ^ m
 | 0, s, x => by simp only [walk]; split <;> simp
 | m + 1, s, x => by
  have h1 := Yl (n := n) (E := E) m (s ++ [(x : Int)]) (x + 1)
  have h2 := Yl (n := n) (E := E) m s (x + 1)
  simp only [walk, List.length_append, Nat.pow_succ]
  split
  ·omega
  ·simp only [List.length_nil]; omega
theorem Y26 {n : Nat} {E : List (Int × Int)} : ∀ (m : Nat) (s : List Int) (x : Nat), s.length <= x -> ∀ r ∈ walk n E m s x, r.length <= x + m
 | 0, s, x, hs, r, hr => by
  simp only [walk] at hr
  split at hr
  ·simp only [List.mem_singleton] at hr; subst hr; omega
  ·simp at hr
 | m + 1, s, x, hs, r, hr => by
  simp only [walk, List.mem_append] at hr
  rcases hr with hr | hr
  ·split at hr
   ·have := Y26 m (s ++ [(x : Int)]) (x + 1) (by simp; omega) r hr
    omega
   ·simp at hr
  ·have := Y26 m s (x + 1) (by omega) r hr
   omega
def touch (x : Int) (e : Int × Int) : Bool := decide (e.1 = x) || decide (e.2 = x)
theorem Y4a {E : List (Int × Int)} {s : List Int} {y : Int} (h : E.any (touch y) = false) (hi : indep E s = true) : indep E (s ++ [y]) = true := by
 unfold indep at *
 rw [List.all_eq_true] at *
 intro e he
 have h1 := hi e he
 have h2 : ¬ (touch y e = true) := fun h3 => by
  have : E.any (touch y) = true := List.any_eq_true.2 ⟨e, he, h3⟩
  rw [h] at this; exact absurd this (by decide)
 have h3 : e.1 ≠ y /\ e.2 ≠ y := by
  simp only [touch, Bool.or_eq_true, decide_eq_true_eq, not_or] at h2
  exact h2
 have m1 : (e.1 ∈ s ++ [y]) ↔ e.1 ∈ s := by simp [h3.1]
 have m2 : (e.2 ∈ s ++ [y]) ↔ e.2 ∈ s := by simp [h3.2]
 simp only [m1, m2]
 exact h1
theorem Y1l {n : Nat} {E : List (Int × Int)} {y : Nat} (hy : y < n) (h : E.any (touch y) = false) : ∀ (m : Nat) (s : List Int) (x : Nat), y < x -> (y : Int) ∉ s -> walk n E m s x = []
 | 0, s, x, hx, hs => by
  simp only [walk]
  rw [if_neg]
  intro hm
  simp only [maxI, Bool.and_eq_true, decide_eq_true_eq] at hm
  have := hm.2.2.2 y hy
  rw [fitsE, decide_eq_false hs, Y4a h hm.2.2.1] at this
  simp at this
 | m + 1, s, x, hx, hs => by
  simp only [walk]
  rw [Y1l hy h m s (x + 1) (by omega) hs, List.append_nil]
  split
  ·exact Y1l hy h m _ (x + 1) (by omega) (by simp only [List.mem_append, List.mem_singleton, not_or]; exact ⟨hs, by omega⟩)
  ·rfl
theorem Y1q {N : Nat} {E : List (Int × Int)} (he : E.length <= 196) (Rf : Int -> List (Int × Int) -> List Int -> Int -> Option (List (List Int))) (n : Int) (s : List Int) (x : Nat) (hx : x <= 1000) (out : List (List Int)) :
  ∀ {f j : Nat} {met : Bool}, E.length - j < f -> j <= E.length -> Z5r N Rf f n E s x out met (j : Int) = bif met || (E.drop j).any (touch x) then ((Rf n E s ((x + 1 : Nat) : Int)).bind fun r4 => grd (appOk out r4 24) <| some (out ++ r4)) else some out
 | 0, j, met, hf, hj => by omega
 | f + 1, j, met, hf, hj => by
  by_cases h : j < E.length
  ·have e1 : (j : Int) < (E.length : Int) := by omega
   simp only [Z5r, Z88, e1, decide_true, cond_true, Y1 h, grd_true, Y2 h, Y0 (j := j) (by omega)]
   rw [Y24 h]
   cases met with
   | true => rw [cond_true, Y1q he Rf n s x hx out (by omega) h]; rfl
   | false =>
    rw [cond_false, beqI, beqI]
    unfold touch
    cases decide (E[j].1 = (x : Int)) with
    | true => rw [cond_true, Y1q he Rf n s x hx out (by omega) h]; rfl
    | false =>
     rw [cond_false, Y1q he Rf n s x hx out (by omega) h]
     simp only [Bool.false_or]
     rfl
  ·have : j = E.length := by omega
   subst this
   simp only [Z5r, Z88, Int.lt_irrefl, decide_false, cond_false, List.drop_length, List.any_nil, Bool.or_false, Y0 (j := x) (by omega)]
theorem Y4b {m : Nat} (h : m <= 14) : 2 ^ m <= 16384 := Nat.pow_le_pow_right (n := 2) (by decide) h
theorem Y27 {N n : Nat} {E : List (Int × Int)} (h : EOk n E) (hN : 1048576 < N) : ∀ (m f : Nat) (s : List Int) (x : Nat), m < f -> x + m = n -> s.length <= x -> (∀ y ∈ s, y < (x : Int)) -> Z3q N f n E s x = some (walk n E m s x)
 | _, 0, _, _, hf, _, _, _ => by omega
 | 0, f + 1, s, x, hf, hx, hl, hs => by
  have hn := h.few
  obtain rfl : x = n := by omega
  simp only [Z3q, Z8p, beqI, decide_true, cond_true, Y44 h (s := s) (by omega) hN, Option.bind_some, walk]
  cases maxI x E s with
  | true => rw [cond_true, Y6 (by omega) (by simp only [List.length_nil]; omega)]; rfl
  | false => rfl
 | m + 1, f + 1, s, x, hf, hx, hl, hs => by
  have hn := h.few
  have hne : ¬ (x : Int) = (n : Int) := by omega
  have hxs : (x : Int) ∉ s := fun hm => by have := hs _ hm; omega
  have i1 := Y27 h hN m f (s ++ [(x : Int)]) (x + 1) (by omega) (by omega) (by simp; omega) (fun y hy => by
   simp only [List.mem_append, List.mem_singleton] at hy
   rcases hy with hy | hy
   ·have := hs y hy; omega
   ·omega)
  have i2 := Y27 h hN m f s (x + 1) (by omega) (by omega) (by omega) (fun y hy => by have := hs y hy; omega)
  have p1 := Yl (n := n) (E := E) m (s ++ [(x : Int)]) (x + 1)
  have p2 := Yl (n := n) (E := E) m s (x + 1)
  have p3 := Y4b (m := m) (by omega)
  have fin : ∀ out : List (List Int), out.length <= 16384 -> Z5r N (Z3q N f) N n E s x out false 0 = some (out ++ walk n E m s (x + 1)) := by
   intro out ho
   have := Y1q (N := N) h.len (Z3q N f) n s x (by omega) out (f := N) (j := 0) (met := false) (by have := h.len; omega) (by omega)
   rw [show ((0 : Nat) : Int) = 0 from rfl] at this
   rw [this, List.drop_zero, Bool.false_or, i2, Option.bind_some, Y6 (by omega) (by omega), grd_true]
   cases ht : E.any (touch x) with
   | true => rfl
   | false => rw [cond_false, Y1l (by omega) ht m s (x + 1) (by omega) hxs, List.append_nil]
  simp only [Z3q, Z8p, beqI, decide_eq_false hne, cond_false, Y3o h.len (show s.length <= 900 by omega) hN, Option.bind_some, fitsE, decide_eq_false hxs, Bool.not_false, Bool.true_and, walk]
  cases indep E (s ++ [(x : Int)]) with
  | true =>
   rw [cond_true, Y6 (by omega) (by simp only [List.length_nil]; omega), Y6 (by omega) (by simp only [List.length_singleton]; omega), grd_true, grd_true, Y0 (by omega), i1, Option.bind_some, fin _ (by omega)]
   rfl
  | false =>
   rw [cond_false, fin [] (by simp)]
   rfl
theorem Y1b {N n : Nat} {E : List (Int × Int)} (h : EOk n E) (hN : 1048576 < N) : ∀ (m f : Nat) (s : List Int) (x : Nat) (out : List (List Int)), m < f -> x + m = n -> s.length <= x -> out.length + 2 ^ m <= 100000 -> Z0m N f x s n E out n E = some (out ++ walk n E m s x)
 | _, 0, _, _, _, hf, _, _, _ => by omega
 | 0, f + 1, s, x, out, hf, hx, hl, ho => by
  have hn := h.few
  obtain rfl : x = n := by omega
  simp only [Z0m, Z32, beqI, decide_true, cond_true, Y46 h (s := s) (by omega) hN, Option.bind_some, walk]
  cases maxI x E s with
  | true => rw [cond_true, Y6 (by omega) (by simp only [List.length_nil]; omega), Y6 (by omega) (by simp only [List.length_singleton]; omega)]; rfl
  | false => simp
 | m + 1, f + 1, s, x, out, hf, hx, hl, ho => by
  have hn := h.few
  have hne : ¬ (x : Int) = (n : Int) := by omega
  rw [Nat.pow_succ] at ho
  have p1 := Yl (n := n) (E := E) m (s ++ [(x : Int)]) (x + 1)
  simp only [Z0m, Z32, beqI, decide_eq_false hne, cond_false, Y45 (N := N) (s := s) (by omega), Option.bind_some]
  rw [Y6 (by omega) (by simp only [List.length_singleton]; omega), grd_true, Y2j h.len (by simp only [List.length_append, List.length_singleton]; omega) hN, Option.bind_some, Y0 (by omega)]
  simp only [walk]
  cases indep E (s ++ [(x : Int)]) with
  | true =>
   rw [cond_true, Y1b h hN m f (s ++ [(x : Int)]) (x + 1) out (by omega) (by omega) (by simp; omega) (by omega), Option.bind_some, Y1b h hN m f s (x + 1) _ (by omega) (by omega) (by omega) (by rw [List.length_append]; omega), Option.bind_some, List.append_assoc]
   rfl
  | false =>
   rw [cond_false, Y1b h hN m f s (x + 1) out (by omega) (by omega) (by omega) (by omega), Option.bind_some]
   rfl
theorem Y3p {d : Db} {l : List Con} (hv : ValidDb d) : EOk d.2.length (edgesOf d l) := by
 refine ⟨hv.few, Y4s hv l, fun e he => ?_⟩
 unfold edgesOf at he
 obtain ⟨i, hi, he⟩ := List.mem_flatMap.1 he
 unfold edgeR at he
 obtain ⟨k, hk, he⟩ := List.mem_flatMap.1 he
 unfold edgeP at he
 have h1 := List.mem_range.1 hi
 have h2 := List.mem_range'.1 hk
 obtain ⟨q, h3, h4⟩ := h2
 split at he
 ·simp only [List.mem_singleton] at he
  subst he
  simp only
  omega
 ·simp at he
def maxSets (n : Nat) (E : List (Int × Int)) : List (List Int) := if validE E then walk n E n [] 0 else []
theorem Y5k {N n : Nat} {E : List (Int × Int)} (h : EOk n E) (hN : 1048576 < N) : Z11 N n E = some (maxSets n E) := by
 have hn := h.few
 unfold Z11 Z8d maxSets
 rw [Y3m h hN, Option.bind_some]
 cases validE E with
 | false => rfl
 | true =>
  have := Y27 h hN n N [] 0 (by omega) (by omega) (by simp) (by simp)
  rw [show ((0 : Nat) : Int) = 0 from rfl] at this
  rw [Bool.not_true, cond_false, this]
  rfl
theorem Y5l {N n : Nat} {E : List (Int × Int)} (h : EOk n E) (hN : 1048576 < N) : Z14 N n E = some (maxSets n E) := by
 have hn := h.few
 have p := Y4b hn
 unfold Z14 Z17 maxSets
 rw [Y3n h hN, Option.bind_some]
 cases validE E with
 | false => rfl
 | true =>
  have := Y1b h hN n N [] 0 [] (by omega) (by omega) (by simp) (by simp only [List.length_nil]; omega)
  rw [show ((0 : Nat) : Int) = 0 from rfl] at this
  rw [Bool.not_true, cond_false, this]
  rfl
def subsets (d : Db) (l : List Con) : List (List Int) := if validDb d then maxSets d.2.length (edgesOf d l) else []
theorem Ym (d : Db) (l : List Con) : (subsets d l).length <= 16384 /\ ∀ r ∈ subsets d l, r.length <= 14 := by
 unfold subsets
 by_cases hv : validDb d = true
 ·rw [if_pos hv]
  have hn := (Y4 hv).few
  unfold maxSets
  split
  ·refine ⟨Nat.le_trans (Yl _ _ _) (Y4b hn), fun r hr => ?_⟩
   have := Y26 d.2.length [] 0 (by simp) r hr
   omega
  ·exact ⟨by simp, by simp⟩
 ·rw [if_neg hv]; exact ⟨by simp, by simp⟩
theorem Y3v {A s : List Int} (hA : A.length <= 14) (hs : s.length <= 1048576) (hN : 1048576 < N) : Z71 N A s = some (A.filter fun x => !decide (x ∈ s)) := by
 unfold Z71 Z99
 have e : (A.filter fun x => !decide (x ∈ s)) = A.flatMap fun x => if decide (x ∈ s) then [] else [x] := by
  induction A with
  | nil => rfl
  | cons x A ih =>
   rw [List.filter_cons, List.flatMap_cons, <- ih (by simp at hA; omega)]
   by_cases hm : x ∈ s <;> simp [hm]
 rw [e]
 refine Y3y (a := A) (fun x => if decide (x ∈ s) then [] else [x]) (f := fun k o i => Z6g N k s o A (A.length : Int) i) (fun x _ => by split <;> simp) (fun k o => by simp [Z6g, Z7y]) (fun k o j hj ho => ?_) (by omega)
 have h1 : (j : Int) < (A.length : Int) := by omega
 simp only [Z6g, Z7y, h1, decide_true, cond_true, Y1 hj, grd_true, Y2 hj, Y1p hs hN, Option.bind_some, Y0 (j := j) (by omega)]
 by_cases hm : A[j] ∈ s
 ·simp [hm]
 ·rw [decide_eq_false hm, Bool.not_false, cond_true, Y6 (by omega) (by simp only [List.length_singleton]; omega), grd_true]
  rfl
def cov (d : Db) (q : Qry) (s : List Int) : Bool := (embs d q).any fun e => e.2.all fun x => decide (x ∈ s)
theorem Yx {α : Type} {p : α -> Bool} {l out : List α} {j : Nat} (h : j < l.length) : out ++ (l.drop j).filter p = (if p l[j] then out ++ [l[j]] else out) ++ (l.drop (j + 1)).filter p := by
 rw [List.drop_eq_getElem_cons h, List.filter_cons]
 cases hp : p l[j] <;> simp
theorem Y3q {α : Type} {ix : List Int} {i : Int} {x : List α} {b : Nat} (h : ∀ k ∈ ix, k < i) (hb : (x.length + 1) * b <= 140737488355328) : selOk ix i x b = true := by
 unfold selOk
 rw [Bool.and_eq_true, List.all_eq_true]
 exact ⟨fun k hk => decide_eq_true (h k hk), decide_eq_true hb⟩
theorem Y2l {ix : List Int} {j : Nat} (h : ∀ k ∈ ix, k < (j : Int)) : ∀ k ∈ ix ++ [(j : Int)], k < ((j + 1 : Nat) : Int) := by
 intro k hk
 rcases List.mem_append.1 hk with h' | h'
 ·have := h k h'; omega
 ·rw [List.mem_singleton] at h'; omega
theorem Y2m {j : Nat} : ∀ k ∈ [(j : Int)], k < ((j + 1 : Nat) : Int) := by
 intro k h'
 rw [List.mem_singleton] at h'; omega
theorem Y3r {ix : List Int} {j : Nat} (h : ∀ k ∈ ix, k < (j : Int)) : ∀ k ∈ ix, k < ((j + 1 : Nat) : Int) := by
 intro k hk
 have := h k hk; omega
structure Some (d : Db) (l : List Con) (ss : List (List Int)) : Prop where
 few : ss.length <= 16384
 sub : ∀ r ∈ ss, r ∈ subsets d l
def found (d : Db) (q : Qry) (ss : List (List Int)) (want : Bool) : List Int × Bool := if queryFor d q then (match ss.find? fun r => cov d q r == want with
  | some r => (r, true)
  | none => ([], false)) else ([], false)
theorem Y5m {α : Type} {a : List α} (c : α -> Bool) {f : Nat -> List α -> Int -> Option (List α)} (hend : ∀ k out, f (k + 1) out (a.length : Int) = some out)
  (hstep : ∀ k out j (h : j < a.length), out.length <= j -> f (k + 1) out (j : Int) = f k (if c a[j] then out ++ [a[j]] else out) ((j + 1 : Nat) : Int)) {k : Nat} (hk : a.length < k) : f k [] 0 = some (a.filter c) := by
 rw [Y3y (a := a) (fun x => if c x then [x] else []) (f := f) (fun x _ => by split <;> simp) hend (fun k out j h ho => by
  rw [hstep k out j h ho]
  split <;> simp) hk]
 congr 1
 induction a with
 | nil => rfl
 | cons x a ih => 
  clear hend hstep hk
  have : ∀ l : List α, (l.flatMap fun x => if c x then [x] else []) = l.filter c := fun l => by
   induction l with
   | nil => rfl
   | cons y l ih => rw [List.flatMap_cons, ih, List.filter_cons]; split <;> simp
  exact this _
abbrev Edges := List (Int × Int)
theorem Y2b {p : Edges} {v : Int × Int} (hp : p.length <= 1048576) (hN : 1048576 < N) : Z0 N p v = some (decide (v ∈ p)) := by
 unfold Z0 Z0i Z2n
 rw [Yc (d := ((0, 0) : Int × Int)) (xs := p) (p := fun x => decide (v = x)) (first (n := p.length) (fun j => decide (v = p.getD j (0, 0))) (fun k i => Z0d N k p v.1 v.2 (p.length : Int) i) (fun k => by simp [Z0d, Z0z]) (fun k j hj => ?_) (by omega))]
 ·congr 1
  rw [Bool.eq_iff_iff, decide_eq_true_eq, List.any_eq_true]
  exact ⟨fun ⟨x, h1, h2⟩ => (of_decide_eq_true h2) ▸ h1, fun h => ⟨v, h, decide_eq_true rfl⟩⟩
 ·have h1 : (j : Int) < (p.length : Int) := by omega
  simp only [Z0d, Z0z, h1, decide_true, cond_true, Y1 hj, grd_true, Y2 hj, Y3 hj, Y0 (j := j) (by omega), beqI]
  obtain ⟨v1, v2⟩ := v
  have : decide ((v1, v2) = p[j]) = (decide (v1 = p[j].1) && decide (v2 = p[j].2)) := by
   rw [<- Bool.decide_and]
   exact decide_eq_decide.2 ⟨fun h => by rw [<- h]; exact ⟨rfl, rfl⟩, fun h => Prod.ext h.1 h.2⟩
  rw [this]
  cases decide (v1 = p[j].1) && decide (v2 = p[j].2) <;> rfl
theorem Y2n {p : Edges} {a b : Int} (hp : p.length <= 1048576) (hN : 1048576 < N) : Z33 N p a b = some (decide ((a, b) ∈ p)) := by
 unfold Z33
 rw [Y2b hp hN]; rfl
theorem Y4y {p : Edges} {a b : Int} {f : Nat -> Int -> Option Bool} (hend : ∀ k, f (k + 1) (p.length : Int) = some false) (hstep : ∀ k j (h : j < p.length), f (k + 1) (j : Int) = if p[j] = (a, b) then some true else f k ((j + 1 : Nat) : Int)) {k : Nat} (hk : p.length < k) : f k 0 = some (decide ((a, b) ∈ p)) := by
 rw [Y7 (n := p.length) (fun j => !decide (p.getD j (0, 0) = (a, b))) (some true) (some false) f hend (fun k j hj => by
  rw [hstep k j hj, Y3 hj]
  by_cases h : p[j] = (a, b) <;> simp [h]) hk]
 by_cases h : (a, b) ∈ p
 ·rw [decide_eq_true h]
  obtain ⟨j, hj, e⟩ := List.mem_iff_getElem.1 h
  rw [if_neg (fun h' => by have := h' j hj; rw [Y3 hj, e] at this; simp at this)]
 ·rw [decide_eq_false h, if_pos (fun j hj => by
   rw [Y3 hj]
   have : ¬ p[j] = (a, b) := fun e => h (e ▸ List.getElem_mem hj)
   simp [this])]
theorem Y4z {p : Edges} {a b : Int} (hp : p.length <= 1048576) (hN : 1048576 < N) : Z4m N p a b = some (decide ((a, b) ∈ p)) := by
 unfold Z4m Z8j
 refine Y4y (f := fun k i => Z47 N k p a b i) (fun k => by simp [Z47, Z6e]) (fun k j hj => ?_) (by omega)
 have h1 : (j : Int) < (p.length : Int) := by omega
 simp only [Z47, Z6e, h1, decide_true, cond_true, Y1 hj, grd_true, Y2 hj, Y0 (j := j) (by omega), beqI]
 by_cases e1 : p[j].1 = a
 ·by_cases e2 : p[j].2 = b
  ·have : p[j] = (a, b) := Prod.ext e1 e2
   simp [this]
  ·have : ¬ p[j] = (a, b) := fun e => e2 (by rw [e])
   simp [this, e1, e2]
 ·have : ¬ p[j] = (a, b) := fun e => e1 (by rw [e])
  simp [this, e1]
theorem Y4c {E : Edges} {a b : Int} (hp : E.length <= 1048576) (hN : 1048576 < N) : Z4d N E a b = some (decide ((imin a b, imax a b) ∈ E)) := by
 unfold Z4d Z98
 refine Y4y (f := fun k i => Z6d N k E a b i) (fun k => by simp [Z6d, Z7x]) (fun k j hj => ?_) (by omega)
 have h1 : (j : Int) < (E.length : Int) := by omega
 simp only [Z6d, Z7x, h1, decide_true, cond_true, Y1 hj, grd_true, Y2 hj, Y0 (j := j) (by omega), beqI]
 by_cases e1 : E[j].1 = imin a b
 ·by_cases e2 : E[j].2 = imax a b
  ·have : E[j] = (imin a b, imax a b) := Prod.ext e1 e2
   simp [this]
  ·have : ¬ E[j] = (imin a b, imax a b) := fun e => e2 (by rw [e])
   simp [this, e1, e2]
 ·have : ¬ E[j] = (imin a b, imax a b) := fun e => e1 (by rw [e])
  simp [this, e1]
def conf (E : Edges) (a b : Int) : Bool := decide ((a, b) ∈ E) || decide ((b, a) ∈ E)
theorem Y5y {E : Edges} {a b : Int} (hp : E.length <= 1048576) (hN : 1048576 < N) : Z59 N E a b = some (conf E a b) := by
 unfold Z59 conf
 rw [Y2b hp hN, Option.bind_some, Y2b hp hN]
 cases decide ((a, b) ∈ E) <;> rfl
theorem Y3w {n : Nat} {E : Edges} (h : EOk n E) (a b : Int) : decide ((imin a b, imax a b) ∈ E) = conf E a b := by
 unfold conf imin imax
 rw [<- Bool.decide_or]
 refine decide_eq_decide.2 ⟨fun hm => ?_, fun hm => ?_⟩
 ·split at hm
  ·split at hm
   ·omega
   ·exact .inr hm
  ·split at hm
   ·exact .inl hm
   ·have := (h.all _ hm).2.1
    simp only at this
    omega
 ·rcases hm with hm | hm
  ·have := (h.all _ hm).2.1
   simp only at this
   rw [if_neg (by omega), if_pos (by omega)]
   exact hm
  ·have := (h.all _ hm).2.1
   simp only at this
   rw [if_pos (by omega), if_neg (by omega)]
   exact hm
theorem Y47 {N n : Nat} {E : Edges} (h : EOk n E) {a b : Int} (hN : 1048576 < N) : Z4d N E a b = some (conf E a b) := by
 rw [Y4c (by have := h.len; omega) hN, Y3w h]
def undom (p : Edges) (l : List Int) : List Int := l.filter fun b => !(l.any fun a => decide ((a, b) ∈ p))
theorem Y50 {p : Edges} {l : List Int} (hp : p.length <= 1048576) (hl : l.length <= 1000) (hN : 1048576 < N) : Z4o N p l = some (undom p l) := by
 unfold Z4o Z8k undom
 refine Y5m (a := l) (fun b => !(l.any fun a => decide ((a, b) ∈ p))) (f := fun k out i => Z49 N k l p out l (l.length : Int) i) (fun k out => by simp [Z49, Z6f]) (fun k out j hj ho => ?_) (by omega)
 have h1 : (j : Int) < (l.length : Int) := by omega
 have hc : ∀ b : Int, Z6 N l p b = some (l.any fun a => decide ((a, b) ∈ p)) := fun b => by
  unfold Z6 Z0h Z2j
  rw [Yc (d := (0 : Int)) (xs := l) (p := fun a => decide ((a, b) ∈ p)) (first (n := l.length) (fun j => decide ((l.getD j 0, b) ∈ p)) (fun k i => Z0c N k l p b (l.length : Int) i) (fun k => by simp [Z0c, Z0x]) (fun k j hj => ?_) (by omega))]
  have h1 : (j : Int) < (l.length : Int) := by omega
  simp only [Z0c, Z0x, Z48, h1, decide_true, cond_true, Y1 hj, grd_true, Y2 hj, Y3 hj, Y0 (j := j) (by omega), Y2n hp hN, Option.bind_some]
  cases decide ((l[j], b) ∈ p) <;> rfl
 simp only [Z49, Z6f, h1, decide_true, cond_true, Y1 hj, grd_true, Y2 hj, hc, Option.bind_some, Y0 (j := j) (by omega)]
 cases hb : l.any fun a => decide ((a, l[j]) ∈ p) with
 | true => rfl
 | false => rw [Bool.not_false, cond_true, Y6 (by omega) (by simp only [List.length_singleton]; omega), grd_true, if_pos rfl]
def restP (p : Edges) (l : List Int) : List Int := l.filter fun x => !decide (x ∈ undom p l)
theorem Y1m {p : Edges} {l : List Int} {x : Int} : x ∈ restP p l ↔ x ∈ l /\ ∃ a ∈ l, (a, x) ∈ p := by
 unfold restP undom
 rw [List.mem_filter]
 refine and_congr_right fun hx => ?_
 rw [Bool.not_eq_true', decide_eq_false_iff_not, List.mem_filter]
 constructor
 ·intro h
  by_cases h2 : (l.any fun a => decide ((a, x) ∈ p)) = true
  ·obtain ⟨a, ha, h3⟩ := List.any_eq_true.1 h2
   exact ⟨a, ha, of_decide_eq_true h3⟩
  ·exact absurd ⟨hx, by rw [Bool.not_eq_true'] ; exact Bool.eq_false_iff.2 h2⟩ h
 ·rintro ⟨a, ha, h3⟩ ⟨_, h4⟩
  have : (l.any fun a => decide ((a, x) ∈ p)) = true := List.any_eq_true.2 ⟨a, ha, decide_eq_true h3⟩
  rw [this] at h4
  cases h4
def Stuck (p : Edges) (S : Int -> Prop) : Prop := (∃ x, S x) /\ ∀ b, S b -> ∃ a, S a /\ (a, b) ∈ p
def acycL (p : Edges) : Nat -> List Int -> Bool
 | 0, l => l.isEmpty
 | f + 1, l => if l.isEmpty then true else if (restP p l).length = l.length then false else acycL p f (restP p l)
theorem Y2o {p : Edges} : ∀ {f : Nat} {l : List Int}, l.length <= f -> (acycL p f l = true ↔ ¬ ∃ S : Int -> Prop, Stuck p S /\ ∀ x, S x -> x ∈ l)
 | 0, l, h => by
  obtain rfl : l = [] := List.length_eq_zero_iff.1 (by omega)
  refine ⟨fun _ ⟨S, ⟨⟨x, hx⟩, _⟩, h2⟩ => absurd (h2 x hx) (by simp), fun _ => rfl⟩
 | f + 1, l, h => by
  unfold acycL
  have hl : (restP p l).length <= l.length := List.length_filter_le _ _
  cases l with
  | nil => exact ⟨fun _ ⟨S, ⟨⟨x, hx⟩, _⟩, h2⟩ => absurd (h2 x hx) (by simp), fun _ => rfl⟩
  | cons y l0 =>
   rw [List.isEmpty_cons, if_neg (by simp)]
   by_cases hr : (restP p (y :: l0)).length = (y :: l0).length
   ·rw [if_pos hr]
    have hall : restP p (y :: l0) = y :: l0 := (List.filter_sublist (l := y :: l0)).eq_of_length hr
    refine ⟨fun h => (by cases h), fun h => absurd ⟨fun x => x ∈ y :: l0, ⟨⟨y, by simp⟩, fun b hb => ?_⟩, fun _ h => h⟩ h⟩
    rw [<- hall] at hb
    exact (Y1m.1 hb).2
   ·rw [if_neg hr, Y2o (by omega)]
    refine not_congr ⟨fun ⟨S, h1, h2⟩ => ⟨S, h1, fun x hx => (Y1m.1 (h2 x hx)).1⟩, fun ⟨S, h1, h2⟩ => ⟨S, h1, fun x hx => Y1m.2 ⟨h2 x hx, ?_⟩⟩⟩
    obtain ⟨a, ha, h3⟩ := h1.2 x hx
    exact ⟨a, h2 a ha, h3⟩
def verts (n : Nat) : List Int := (List.range n).map fun (i : Nat) => (i : Int)
theorem Y51 {n : Nat} {x : Int} : x ∈ verts n ↔ 0 <= x /\ x < (n : Int) := by
 unfold verts
 rw [List.mem_map]
 constructor
 ·rintro ⟨i, hi, rfl⟩
  have := List.mem_range.1 hi
  omega
 ·intro h
  exact ⟨x.toNat, List.mem_range.2 (by omega), by omega⟩
def acyc (n : Nat) (p : Edges) : Bool := acycL p n (verts n)
theorem Y5n {n : Nat} {p : Edges} : acyc n p = true ↔ ¬ ∃ S : Int -> Prop, Stuck p S /\ ∀ x, S x -> 0 <= x /\ x < (n : Int) := by
 unfold acyc
 rw [Y2o (by simp [verts])]
 simp only [Y51]
theorem Y2p {N : Nat} {p : Edges} (hp : p.length <= 1048576) (hN : 1048576 < N) : ∀ {f k : Nat} {l : List Int}, l.length <= f -> f < k -> l.length <= 14 -> Z2o N k p l = some (acycL p f l)
 | f, 0, l, h, hk, _ => by omega
 | 0, k + 1, l, h, hk, _ => by
  obtain rfl : l = [] := List.length_eq_zero_iff.1 (by omega)
  simp [Z2o, Z6r, acycL]
 | f + 1, k + 1, l, h, hk, h14 => by
  simp only [Z2o, Z6r, acycL]
  cases l with
  | nil => rfl
  | cons y l0 =>
   have hl : (restP p (y :: l0)).length <= (y :: l0).length := List.length_filter_le _ _
   have hu : (undom p (y :: l0)).length <= (y :: l0).length := List.length_filter_le _ _
   have h1 : ((y :: l0).length : Int) > 0 := by simp only [List.length_cons]; omega
   rw [decide_eq_true h1, cond_true, Y50 hp (by omega) hN, Option.bind_some, Y3v h14 (by omega) hN, Option.bind_some]
   show (bif (((restP p (y :: l0)).length : Int) == ((y :: l0).length : Int)) then some false else Z2o N k p (restP p (y :: l0))) = _
   rw [List.isEmpty_cons, if_neg (by simp)]
   by_cases hr : (restP p (y :: l0)).length = (y :: l0).length
   ·rw [if_pos hr, hr, beqI, decide_eq_true rfl, cond_true]
   ·rw [if_neg hr, beqI, decide_eq_false (by omega), cond_false]
    exact Y2p hp hN (by omega) (by omega) (by omega)
theorem Y5o {N n : Nat} {p : Edges} (hn : n <= 14) (hp : p.length <= 1048576) (hN : 1048576 < N) : Z58 N (n : Int) p = some (acyc n p) := by
 unfold Z58 Z8o
 have key : ∀ (m k : Nat), m <= n -> n - m < k -> Z65 N k p (verts m) (n : Int) (m : Int) = Z2o N N p (verts n) := by
  intro m k
  induction k generalizing m with
  | zero => intro h1 h2; omega
  | succ k ih =>
   intro h1 h2
   simp only [Z65, Z8a]
   by_cases hm : m < n
   ·have hlen : (verts m).length = m := by simp [verts]
    rw [decide_eq_true (show (m : Int) < (n : Int) by omega), cond_true, Y6 (by omega) (by rw [hlen, List.length_singleton]; omega), grd_true, Y0 (by omega)]
    rw [show verts m ++ [(m : Int)] = verts (m + 1) by unfold verts; rw [List.range_succ, List.map_append]; rfl]
    exact ih (m + 1) hm (by omega)
   ·obtain rfl : m = n := by omega
    rw [decide_eq_false (by omega), cond_false]
 have := key 0 N (by omega) (by omega)
 rw [show verts 0 = [] from rfl, show ((0 : Nat) : Int) = 0 from rfl] at this
 rw [this]
 exact Y2p hp hN (f := n) (by simp [verts]) (by omega) (by simp [verts]; omega)
def prefE (E p : Edges) : Bool := p.all fun q => conf E q.1 q.2
def validP (n : Nat) (E p : Edges) : Bool := validE E && (prefE E p && acyc n p)
theorem Y62 {N n : Nat} {E p : Edges} (h : EOk n E) (hp : p.length <= 1048576) (hN : 1048576 < N) : Z20 N (n : Int) E p = some (validP n E p) := by
 unfold Z20 Z72 validP
 rw [Y3n h hN, Option.bind_some]
 cases validE E with
 | false => rfl
 | true =>
  rw [Bool.not_true, cond_false, Bool.true_and]
  rw [Y7 (n := p.length) (fun j => conf E (p.getD j (0, 0)).1 (p.getD j (0, 0)).2) (some false) (some (acyc n p)) (fun k i => Z27 N k (n : Int) E p p (p.length : Int) i) (fun k => by simp [Z27, Z41, Y5o h.few hp hN]) (fun k j hj => ?_) (by omega)]
  ·unfold prefE
   rw [Y25 (0, 0)]
   split
   ·rename_i h4; rw [decide_eq_true h4, Bool.true_and]
   ·rename_i h4; rw [decide_eq_false h4, Bool.false_and]
  ·have h1 : (j : Int) < (p.length : Int) := by omega
   have hE := h.len
   simp only [Z27, Z41, h1, decide_true, cond_true, Y1 hj, grd_true, Y2 hj, Y3 hj, Y0 (j := j) (by omega), Y2b (p := E) (by omega) hN, Option.bind_some, conf]
   cases decide ((p[j].1, p[j].2) ∈ E) <;> cases decide ((p[j].2, p[j].1) ∈ E) <;> rfl
def freeP (p : Edges) (g : List Bool) (x : Nat) : Bool := p.all fun q => !decide (q.2 = (x : Int)) || g.getD q.1.toNat false
def stepP (p : Edges) (g : List Bool) (x : Nat) : List Bool := if freeP p g x then g.set x true else g
def rndP (p : Edges) : Nat -> Nat -> List Bool -> List Bool
 | _, 0, g => g
 | x, m + 1, g => rndP p (x + 1) m (stepP p g x)
def rndsP (n : Nat) (p : Edges) : Nat -> List Bool -> List Bool
 | 0, g => g
 | m + 1, g => rndsP n p m (rndP p 0 n g)
theorem Y1n (p : Edges) (g : List Bool) (x : Nat) : (stepP p g x).length = g.length := by unfold stepP; split <;> simp
theorem Y1c (p : Edges) : ∀ (m x : Nat) (g : List Bool), (rndP p x m g).length = g.length
 | 0, _, _ => rfl
 | m + 1, x, g => by rw [rndP, Y1c p m, Y1n]
theorem Y5p {N n : Nat} {p : Edges} {g : List Bool} {k2 : Int} {x : Nat} (R : Int -> Edges -> List Bool -> Int -> Int -> Option Bool) (hp : ∀ q ∈ p, 0 <= q.1 /\ q.1 < (n : Int)) (hg : g.length = n) (hx : x < n) (hn : n <= 14) (hpl : p.length <= 1048576) (hN : 1048576 < N) :
  Z22 R N N (n : Int) p g k2 (x : Int) true 0 = R (n : Int) p (stepP p g x) k2 ((x + 1 : Nat) : Int) := by
 have := loop (fun k (s : Bool × Nat) => Z22 R N k (n : Int) p g k2 (x : Int) s.1 (s.2 : Int)) (fun s => s.2 <= p.length /\ s.1 = (p.take s.2).all fun q => !decide (q.2 = (x : Int)) || g.getD q.1.toNat false) (fun s => p.length - s.2) (fun o => o = R (n : Int) p (stepP p g x) k2 ((x + 1 : Nat) : Int)) (fun k s hs => by
  obtain ⟨b, j⟩ := s
  obtain ⟨hj', hb⟩ := hs
  simp only at hj' hb ⊢
  simp only [Z22, Z62]
  by_cases hj : j < p.length
  ·right
   have h1 : (j : Int) < (p.length : Int) := by omega
   have hq := hp _ (List.getElem_mem hj)
   refine ⟨(b && (!decide (p[j].2 = (x : Int)) || g.getD p[j].1.toNat false), j + 1), ⟨hj, ?_⟩, by simp only; omega, ?_⟩
   ·simp only
    rw [List.take_succ_eq_append_getElem hj, List.all_append, hb]
    simp
   ·rw [decide_eq_true h1, cond_true, Y0 (j := j) (by omega)]
    cases b with
    | false => rfl
    | true =>
     rw [cond_true, Y1 hj, grd_true, Y2 hj, bneI, Bool.true_and]
     by_cases hx2 : p[j].2 = (x : Int)
     ·have hin : inb p[j].1 g = true := by unfold inb; rw [decide_eq_true hq.1, decide_eq_true (by omega)]; rfl
      rw [decide_eq_true hx2, Bool.not_true, cond_false, grd_true, hin, grd_true, Bool.false_or]
      rfl
     ·rw [decide_eq_false hx2, Bool.not_false, cond_true, Bool.true_or]
  ·left
   have h1 : ¬ (j : Int) < (p.length : Int) := by omega
   rw [List.take_of_length_le (by omega)] at hb
   have hxg : x < g.length := by omega
   rw [decide_eq_false h1, cond_false, Y0 (j := x) (by omega), Y1 hxg, grd_true, grd_true]
   unfold stepP freeP
   rw [<- hb]
   cases b <;> rfl) N (true, 0) (by simp only; omega) ⟨by simp, by simp⟩
 exact this
theorem Y2q {N n : Nat} {p : Edges} {k2 : Nat} (R : Int -> Edges -> List Bool -> Int -> Option Bool) (hp : ∀ q ∈ p, 0 <= q.1 /\ q.1 < (n : Int)) (hn : n <= 14) (hk2 : k2 <= 14) (hpl : p.length <= 1048576) (hN : 1048576 < N) :
  ∀ (m k x : Nat) (g : List Bool), x + m = n -> m < k -> g.length = n -> Z1e R N k (n : Int) p g (k2 : Int) (x : Int) = R (n : Int) p (rndP p x m g) ((k2 + 1 : Nat) : Int)
 | m, 0, x, g, h, hk, _ => by omega
 | 0, k + 1, x, g, h, hk, hg => by
  have h1 : ¬ (x : Int) < (n : Int) := by omega
  simp only [Z1e, Z3w]
  rw [decide_eq_false h1, cond_false, Y0 (j := k2) (by omega), rndP]
 | m + 1, k + 1, x, g, h, hk, hg => by
  have h1 : (x : Int) < (n : Int) := by omega
  simp only [Z1e, Z3w]
  rw [decide_eq_true h1, cond_true, Y5p _ hp hg (by omega) hn hpl hN, rndP]
  exact Y2q R hp hn hk2 hpl hN m k (x + 1) _ (by omega) (by omega) (by rw [Y1n, hg])
def allGone (n : Nat) (g : List Bool) : Bool := decide (∀ j, j < n -> g.getD j false = true)
theorem Y2c {N n : Nat} {p : Edges} (hp : ∀ q ∈ p, 0 <= q.1 /\ q.1 < (n : Int)) (hn : n <= 14) (hpl : p.length <= 1048576) (hN : 1048576 < N) :
  ∀ (m k x : Nat) (g : List Bool), x + m = n -> m < k -> g.length = n -> Z0p N k (n : Int) p g (x : Int) = some (allGone n (rndsP n p m g))
 | m, 0, x, g, h, hk, _ => by omega
 | 0, k + 1, x, g, h, hk, hg => by
  have h1 : ¬ (x : Int) < (n : Int) := by omega
  simp only [Z0p, Z3y]
  rw [decide_eq_false h1, cond_false, rndsP]
  unfold allGone
  exact Ye (n := n) (fun j => g.getD j false) (fun k i => Z23 N k (n : Int) g i) (fun k => by simp [Z23, Z3x]) (fun k j hj => by
   have h1 : (j : Int) < (n : Int) := by omega
   have h2 : j < g.length := by omega
   simp only [Z23, Z3x, h1, decide_true, cond_true, Y1 h2, grd_true, Y2 h2, Y3 h2, Y0 (j := j) (by omega)]
   cases g[j] <;> rfl) (by omega)
 | m + 1, k + 1, x, g, h, hk, hg => by
  have h1 : (x : Int) < (n : Int) := by omega
  simp only [Z0p, Z3y]
  rw [decide_eq_true h1, cond_true, rndsP]
  have := Y2q (k2 := x) (Z0p N k) hp hn (by omega) hpl hN n N 0 g (by omega) (by omega) hg
  rw [show ((0 : Nat) : Int) = 0 from rfl] at this
  rw [this]
  exact Y2c hp hn hpl hN m k (x + 1) _ (by omega) (by omega) (by rw [Y1c, hg])
def cntT (g : List Bool) : Nat := g.count true
theorem Y52 (p : Edges) {g : List Bool} {x : Nat} (hx : x < g.length) : stepP p g x = g \/ cntT g < cntT (stepP p g x) := by
 unfold stepP
 split
 ·cases hg : g[x] with
  | true =>
   left
   rw [<- hg]
   exact List.set_getElem_self hx
  | false =>
   right
   unfold cntT
   rw [List.count_set hx, hg]
   simp
 ·exact .inl rfl
theorem Y3s (p : Edges) : ∀ (m x : Nat) {g : List Bool}, x + m <= g.length -> (rndP p x m g = g /\ ∀ y, x <= y -> y < x + m -> stepP p g y = g) \/ cntT g < cntT (rndP p x m g)
 | 0, x, g, h => .inl ⟨rfl, fun y h1 h2 => by omega⟩
 | m + 1, x, g, h => by
  rw [rndP]
  have hl := Y1n p g x
  have ih := Y3s p m (x + 1) (g := stepP p g x) (by omega)
  rcases Y52 p (g := g) (x := x) (by omega) with h1 | h1
  ·rw [h1] at ih ⊢
   rcases ih with ⟨h2, h3⟩ | h2
   ·refine .inl ⟨h2, fun y hy1 hy2 => ?_⟩
    by_cases hy : y = x
    ·rw [hy]; exact h1
    ·exact h3 y (by omega) (by omega)
   ·exact .inr h2
  ·right
   rcases ih with ⟨h2, _⟩ | h2
   ·rw [h2]; exact h1
   ·omega
theorem Y2r (n : Nat) (p : Edges) : ∀ (m : Nat) (g : List Bool), (rndsP n p m g).length = g.length
 | 0, _ => rfl
 | m + 1, g => by rw [rndsP, Y2r n p m, Y1c]
theorem Y2s {n : Nat} {p : Edges} {g : List Bool} (h : rndP p 0 n g = g) : ∀ m : Nat, rndsP n p m g = g
 | 0 => rfl
 | m + 1 => by rw [rndsP, h]; exact Y2s h m
theorem Y2t {n : Nat} {p : Edges} : ∀ (m : Nat) {g : List Bool}, g.length = n -> (∀ y, y < n -> stepP p (rndsP n p m g) y = rndsP n p m g) \/ cntT g + m <= cntT (rndsP n p m g)
 | 0, g, hg => .inr (by rw [rndsP]; omega)
 | m + 1, g, hg => by
  rcases Y3s p n 0 (g := g) (by omega) with ⟨h1, h2⟩ | h1
  ·left
   rw [rndsP, h1, Y2s h1]
   exact fun y hy => h2 y (by omega) (by omega)
  ·rw [rndsP]
   rcases Y2t (n := n) (p := p) m (g := rndP p 0 n g) ((Y1c p n 0 g).trans hg) with h2 | h2
   ·exact .inl h2
   ·right; omega
def Free (S : Int -> Prop) (g : List Bool) : Prop := ∀ x : Nat, S (x : Int) -> g.getD x false = false
theorem Y4d {p : Edges} {S : Int -> Prop} (hS : Stuck p S) (h0 : ∀ x, S x -> 0 <= x) {g : List Bool} (x : Nat) (h : Free S g) : Free S (stepP p g x) := by
 unfold stepP
 split
 ·rename_i hf
  intro y hy
  by_cases hxy : x = y
  ·subst hxy
   exfalso
   obtain ⟨a, ha, hp⟩ := hS.2 _ hy
   have h1 := List.all_eq_true.1 hf _ hp
   obtain ⟨b, rfl⟩ : ∃ b : Nat, a = (b : Int) := ⟨a.toNat, by have := h0 a ha; omega⟩
   have h2 := h b ha
   simp only [decide_true, Bool.not_true, Bool.false_or, Int.toNat_natCast] at h1
   rw [h2] at h1
   cases h1
  ·have := h y hy
   rw [List.getD_eq_getElem?_getD] at this ⊢
   rw [List.getElem?_set_ne hxy]
   exact this
 ·exact h
theorem Y2u {p : Edges} {S : Int -> Prop} (hS : Stuck p S) (h0 : ∀ x, S x -> 0 <= x) : ∀ (m x : Nat) {g : List Bool}, Free S g -> Free S (rndP p x m g)
 | 0, _, _, h => h
 | m + 1, x, g, h => Y2u hS h0 m (x + 1) (Y4d hS h0 x h)
theorem Y2d {n : Nat} {p : Edges} {S : Int -> Prop} (hS : Stuck p S) (h0 : ∀ x, S x -> 0 <= x) : ∀ (m : Nat) {g : List Bool}, Free S g -> Free S (rndsP n p m g)
 | 0, _, h => h
 | m + 1, g, h => Y2d hS h0 m (Y2u hS h0 n 0 h)
theorem Y63 {g : List Bool} {j : Nat} (hj : j < g.length) (h : g.getD j false = false) : cntT g < g.length := by
 unfold cntT
 rcases Nat.lt_or_ge (g.count true) g.length with h1 | h1
 ·exact h1
 ·exfalso
  have h2 : g.count true = g.length := Nat.le_antisymm List.count_le_length h1
  have := List.count_eq_length.1 h2 _ (List.getElem_mem hj)
  rw [Y3 hj] at h
  rw [h] at this
  cases this
theorem Y53 {n : Nat} {p : Edges} (hp : ∀ q ∈ p, 0 <= q.1 /\ q.1 < (n : Int)) : allGone n (rndsP n p n (List.replicate n false)) = acyc n p := by
 have hl : (rndsP n p n (List.replicate n false)).length = n := by rw [Y2r]; simp
 rw [Bool.eq_iff_iff, Y5n]
 unfold allGone
 rw [decide_eq_true_eq]
 constructor
 ·rintro h ⟨S, hS, hr⟩
  obtain ⟨x, hx⟩ := hS.1
  have h0 := hr x hx
  obtain ⟨y, rfl⟩ : ∃ y : Nat, x = (y : Int) := ⟨x.toNat, by omega⟩
  have h1 := Y2d (n := n) hS (fun x hx => (hr x hx).1) n (g := List.replicate n false) (fun z _ => by
   rw [List.getD_eq_getElem?_getD, List.getElem?_replicate]; split <;> rfl) y hx
  rw [h y (by omega)] at h1
  cases h1
 ·intro h j hj
  cases hg : (rndsP n p n (List.replicate n false)).getD j false with
  | true => rfl
  | false =>
   exfalso
   have hlt := Y63 (by omega) hg
   rcases Y2t (n := n) (p := p) n (g := List.replicate n false) (by simp) with h1 | h1
   ·refine h ⟨fun x => 0 <= x /\ x < (n : Int) /\ (rndsP n p n (List.replicate n false)).getD x.toNat false = false, ⟨⟨(j : Int), by omega, by omega, by rw [Int.toNat_natCast]; exact hg⟩, fun b hb => ?_⟩, fun x hx => ⟨hx.1, hx.2.1⟩⟩
    obtain ⟨b1, b2, b3⟩ := hb
    obtain ⟨y, rfl⟩ : ∃ y : Nat, b = (y : Int) := ⟨b.toNat, by omega⟩
    rw [Int.toNat_natCast] at b3
    have h2 := h1 y (by omega)
    unfold stepP at h2
    split at h2
    ·exfalso
     have : ((rndsP n p n (List.replicate n false)).set y true).getD y false = true := by
      rw [List.getD_eq_getElem?_getD, List.getElem?_set_self (by omega)]; rfl
     rw [h2, b3] at this
     cases this
    ·rename_i hf
     have hf := Bool.eq_false_iff.2 hf
     unfold freeP at hf
     obtain ⟨q, hq, hf⟩ := List.all_eq_false.1 hf
     simp only [Bool.or_eq_true, Bool.not_eq_true', decide_eq_false_iff_not, not_or, Decidable.not_not, Bool.not_eq_true] at hf
     have hr := hp q hq
     exact ⟨q.1, ⟨hr.1, hr.2, hf.2⟩, by rw [<- hf.1]; exact hq⟩
   ·omega
theorem Y64 {N n : Nat} {E p : Edges} (h : EOk n E) (hp : p.length <= 1048576) (hN : 1048576 < N) : Z1x N (n : Int) E p = some (validP n E p) := by
 have hf := h.few
 unfold Z1x Z6y validP
 rw [Y3m h hN, Option.bind_some]
 cases validE E with
 | false => rfl
 | true =>
  rw [Bool.not_true, cond_false, Bool.true_and]
  rw [Y7 (n := p.length) (fun j => conf E (p.getD j (0, 0)).1 (p.getD j (0, 0)).2) (some false) (Z0p N N (n : Int) p (List.replicate n false) 0) (fun k i => Z24 N k (n : Int) E p i) (fun k => by
   simp only [Z24, Z3z, Int.lt_irrefl, decide_false, cond_false]
   rw [Yh (by omega), grd_true, Int.toNat_natCast]) (fun k j hj => ?_) (by omega)]
  ·unfold prefE
   rw [Y25 (0, 0)]
   split
   ·rename_i h4
    rw [decide_eq_true h4, Bool.true_and]
    have hpr : ∀ q ∈ p, 0 <= q.1 /\ q.1 < (n : Int) := fun q hq => by
     obtain ⟨j, hj, rfl⟩ := List.mem_iff_getElem.1 hq
     have h5 := h4 j hj
     rw [Y3 hj] at h5
     unfold conf at h5
     rw [Bool.or_eq_true, decide_eq_true_eq, decide_eq_true_eq] at h5
     rcases h5 with h5 | h5
     ·have := h.all _ h5; simp only at this; omega
     ·have := h.all _ h5; simp only at this; omega
    have := Y2c hpr hf hp hN n N 0 (List.replicate n false) (by omega) (by omega) (by simp)
    rw [show ((0 : Nat) : Int) = 0 from rfl] at this
    rw [this, Y53 hpr]
   ·rename_i h4; rw [decide_eq_false h4, Bool.false_and]
  ·have h1 : (j : Int) < (p.length : Int) := by omega
   have hE := h.len
   simp only [Z24, Z3z, h1, decide_true, cond_true, Y1 hj, grd_true, Y2 hj, Y3 hj, Y0 (j := j) (by omega), Y47 h hN, Option.bind_some, beqI]
   by_cases he : p[j].1 = p[j].2
   ·have hc : conf E p[j].1 p[j].2 = false := by
     unfold conf
     rw [he, Bool.or_self, decide_eq_false_iff_not]
     intro hm
     have := h.all _ hm
     simp only at this
     omega
    rw [decide_eq_true he, cond_true, hc]; rfl
   ·rw [decide_eq_false he, cond_false]
    cases conf E p[j].1 p[j].2 <;> rfl
def topP (n : Nat) (E p : Edges) (s : List Int) : Bool := decide (∀ j, j < n -> (decide ((j : Int) ∈ s) || s.any fun y => conf E (j : Int) y && !decide (((j : Int), y) ∈ p)) = true)
def pareto (n : Nat) (E p : Edges) (s : List Int) : Bool := validP n E p && (maxI n E s && topP n E p s)
theorem Y54 {N n : Nat} {E p : Edges} {s : List Int} (h : EOk n E) (hs : s.length <= 900) (hp : p.length <= 1048576) (hN : 1048576 < N) : Z1w N (n : Int) E p s = some (pareto n E p s) := by
 have hf := h.few
 have hE := h.len
 unfold Z1w Z7r pareto
 rw [Y62 h hp hN, Option.bind_some]
 cases validP n E p with
 | false => rfl
 | true =>
  rw [Bool.not_true, cond_false, Y46 h hs hN, Option.bind_some, Bool.true_and]
  cases maxI n E s with
  | false => rfl
  | true =>
   rw [Bool.not_true, cond_false, Bool.true_and]
   unfold topP
   refine Ye (n := n) (fun j => decide ((j : Int) ∈ s) || s.any fun y => conf E (j : Int) y && !decide (((j : Int), y) ∈ p)) (fun k i => Z2v N k s E p (n : Int) i) (fun k => by simp [Z2v, Z4y]) (fun k j hj => ?_) (by omega)
   have h1 : (j : Int) < (n : Int) := by omega
   have hc : Z4 N s E (j : Int) p = some (s.any fun y => conf E (j : Int) y && !decide (((j : Int), y) ∈ p)) := by
    unfold Z4 Z0b Z1s
    rw [Yc (d := (0 : Int)) (xs := s) (p := fun y => conf E (j : Int) y && !decide (((j : Int), y) ∈ p)) (first (n := s.length) (fun i => conf E (j : Int) (s.getD i 0) && !decide (((j : Int), s.getD i 0) ∈ p)) (fun k i => Z7 N k s E (j : Int) p (s.length : Int) i) (fun k => by simp [Z7, Z0s]) (fun k i hi => ?_) (by omega))]
    have h1 : (i : Int) < (s.length : Int) := by omega
    simp only [Z7, Z0s, Z2u, h1, decide_true, cond_true, Y1 hi, grd_true, Y2 hi, Y3 hi, Y0 (j := i) (by omega), Y5y (E := E) (by omega) hN, Option.bind_some, Y2n hp hN]
    cases conf E (j : Int) s[i] <;> cases decide (((j : Int), s[i]) ∈ p) <;> rfl
   simp only [Z2v, Z4y, h1, decide_true, cond_true, Y0 (j := j) (by omega), Y1p (s := s) (by omega) hN, Option.bind_some, hc]
   cases decide ((j : Int) ∈ s) <;> cases s.any fun y => conf E (j : Int) y && !decide (((j : Int), y) ∈ p) <;> rfl
theorem Y5z {N n : Nat} {E p : Edges} {s : List Int} {x : Nat} (R : Int -> Edges -> Edges -> List Int -> Int -> Option Bool) (h : EOk n E) (hx : x < n) (hs : s.length <= 900) (hp : p.length <= 1048576) (hN : 1048576 < N) :
  Z2s R N N (n : Int) E p s (x : Int) true 0 = if s.any fun y => conf E (x : Int) y && !decide (((x : Int), y) ∈ p) then R (n : Int) E p s ((x + 1 : Nat) : Int) else some false := by
 have hf := h.few
 have := loop (fun k (q : Bool × Nat) => Z2s R N k (n : Int) E p s (x : Int) q.1 (q.2 : Int)) (fun q => q.2 <= s.length /\ q.1 = !((s.take q.2).any fun y => conf E (x : Int) y && !decide (((x : Int), y) ∈ p))) (fun q => s.length - q.2) (fun o => o = if s.any fun y => conf E (x : Int) y && !decide (((x : Int), y) ∈ p) then R (n : Int) E p s ((x + 1 : Nat) : Int) else some false) (fun k q hq => by
  obtain ⟨b, j⟩ := q
  obtain ⟨hj', hb⟩ := hq
  simp only at hj' hb ⊢
  simp only [Z2s, Z6o]
  by_cases hj : j < s.length
  ·right
   have h1 : (j : Int) < (s.length : Int) := by omega
   refine ⟨(b && !(conf E (x : Int) s[j] && !decide (((x : Int), s[j]) ∈ p)), j + 1), ⟨hj, ?_⟩, by simp only; omega, ?_⟩
   ·simp only
    rw [List.take_succ_eq_append_getElem hj, List.any_append, hb]
    simp
   ·rw [decide_eq_true h1, cond_true, Y0 (j := j) (by omega)]
    cases b with
    | false => rfl
    | true =>
     rw [cond_true, Y1 hj, grd_true, Y2 hj, Y47 h hN, Option.bind_some, grd_true, Y4z hp hN, Option.bind_some]
     cases conf E (x : Int) s[j] <;> cases decide (((x : Int), s[j]) ∈ p) <;> rfl
  ·left
   have h1 : ¬ (j : Int) < (s.length : Int) := by omega
   rw [List.take_of_length_le (by omega)] at hb
   rw [decide_eq_false h1, cond_false, Y0 (j := x) (by omega), hb]
   cases s.any fun y => conf E (x : Int) y && !decide (((x : Int), y) ∈ p) <;> rfl) N (true, 0) (by simp only; omega) ⟨by simp, by simp⟩
 exact this
theorem Y55 {N n : Nat} {E p : Edges} {s : List Int} (h : EOk n E) (hs : s.length <= 900) (hp : p.length <= 1048576) (hN : 1048576 < N) : Z1v N (n : Int) E p s = some (pareto n E p s) := by
 have hf := h.few
 unfold Z1v Z7n pareto
 rw [Y64 h hp hN, Option.bind_some]
 cases validP n E p with
 | false => rfl
 | true =>
  rw [Bool.not_true, cond_false, Y44 h hs hN, Option.bind_some, Bool.true_and]
  cases maxI n E s with
  | false => rfl
  | true =>
   rw [Bool.not_true, cond_false, Bool.true_and]
   unfold topP
   refine Ye (n := n) (fun j => decide ((j : Int) ∈ s) || s.any fun y => conf E (j : Int) y && !decide (((j : Int), y) ∈ p)) (fun k i => Z1q N k (n : Int) E p s i) (fun k => by simp [Z1q, Z4w]) (fun k j hj => ?_) (by omega)
   have h1 : (j : Int) < (n : Int) := by omega
   simp only [Z1q, Z4w, h1, decide_true, cond_true, Y0 (j := j) (by omega), Y2i (s := s) (by omega) hN, Option.bind_some, Y5z _ h hj hs hp hN]
   cases decide ((j : Int) ∈ s) <;> cases s.any fun y => conf E (j : Int) y && !decide (((j : Int), y) ∈ p) <;> rfl
def prefs (d : Db) (l : List Con) (p : Edges) : List (List Int) := (subsets d l).filter fun s => pareto d.2.length (edgesOf d l) p s
theorem Y2e (d : Db) (l : List Con) (p : Edges) : Some d l (prefs d l p) := ⟨Nat.le_trans (List.length_filter_le _ _) (Ym d l).1, fun r h => (List.mem_filter.1 h).1⟩
theorem Y60 {N n : Nat} {E p : Edges} {all : List (List Int)} (h : EOk n E) (ha : all.length <= 16384) (hs : ∀ s ∈ all, s.length <= 900) (hp : p.length <= 1048576) (hN : 1048576 < N) : ∀ (k j : Nat), all.length - j < k -> j <= all.length ->
  Z2l N k (n : Int) E p [] all (all.length : Int) (j : Int) = some ((all.drop j).filter fun s => pareto n E p s) := by
 have h1 : ∀ (k j : Nat) (ix : List Int) (out : List (List Int)), all.length - j < k -> j <= all.length -> out.length <= j -> (∀ k ∈ ix, k < (j : Int)) -> Z2k N k (n : Int) E p ix out all (all.length : Int) (j : Int) = some (out ++ (all.drop j).filter fun s => pareto n E p s) := by
  intro k
  induction k with
  | zero => intro j ix out h1; omega
  | succ k ih =>
   intro j ix out hk hj ho hx
   simp only [Z2k, Z5a]
   by_cases hjl : j < all.length
   ·rw [decide_eq_true (show (j : Int) < (all.length : Int) by omega), cond_true, Y1 hjl, grd_true, Y2 hjl, Y54 h (hs _ (List.getElem_mem hjl)) hp hN, Option.bind_some, Y0 (j := j) (by omega), Yx hjl]
    cases pareto n E p all[j] with
    | true => rw [cond_true, Y3q hx (by omega), grd_true, if_pos rfl]; exact ih (j + 1) _ _ (by omega) hjl (by simp; omega) (Y2l hx)
    | false => exact ih (j + 1) _ _ (by omega) hjl (by omega) (Y3r hx)
   ·have : j = all.length := by omega
    subst this
    rw [decide_eq_false (by omega), cond_false]
    simp
 intro k
 induction k with
 | zero => intro j h1; omega
 | succ k ih =>
  intro j hk hj
  have e2 := fun h => Yx (p := fun s => pareto n E p s) (l := all) (j := j) (out := []) h
  simp only [List.nil_append] at e2
  simp only [Z2l, Z5b]
  by_cases hjl : j < all.length
  ·rw [decide_eq_true (show (j : Int) < (all.length : Int) by omega), cond_true, Y1 hjl, grd_true, Y2 hjl, Y54 h (hs _ (List.getElem_mem hjl)) hp hN, Option.bind_some, Y0 (j := j) (by omega), e2 hjl]
   cases pareto n E p all[j] with
   | true => rw [cond_true, show selOk0 ([] : List (List Int)) 24 = true from rfl, grd_true, if_pos rfl]; exact h1 _ (j + 1) _ _ (by omega) hjl (by simp) Y2m
   | false => exact ih (j + 1) (by omega) hjl
  ·have : j = all.length := by omega
   subst this
   rw [decide_eq_false (by omega), cond_false]
   simp
theorem Y61 {N n : Nat} {E p : Edges} {all : List (List Int)} (h : EOk n E) (ha : all.length <= 16384) (hs : ∀ s ∈ all, s.length <= 900) (hp : p.length <= 1048576) (hN : 1048576 < N) : ∀ (k j : Nat), all.length - j < k -> j <= all.length ->
  Z2b N k (n : Int) E p [] all (j : Int) = some ((all.drop j).filter fun s => pareto n E p s) := by
 have h1 : ∀ (k j : Nat) (ix : List Int) (out : List (List Int)), all.length - j < k -> j <= all.length -> out.length <= j -> (∀ k ∈ ix, k < (j : Int)) -> Z2a N k (n : Int) E p ix out all (j : Int) = some (out ++ (all.drop j).filter fun s => pareto n E p s) := by
  intro k
  induction k with
  | zero => intro j ix out h1; omega
  | succ k ih =>
   intro j ix out hk hj ho hx
   simp only [Z2a, Z54]
   by_cases hjl : j < all.length
   ·rw [decide_eq_true (show (j : Int) < (all.length : Int) by omega), cond_true, Y1 hjl, grd_true, Y2 hjl, Y55 h (hs _ (List.getElem_mem hjl)) hp hN, Option.bind_some, Y0 (j := j) (by omega), Yx hjl]
    cases pareto n E p all[j] with
    | true => rw [cond_true, grd_true, Y3q hx (by omega), grd_true, if_pos rfl]; exact ih (j + 1) _ _ (by omega) hjl (by simp; omega) (Y2l hx)
    | false => exact ih (j + 1) _ _ (by omega) hjl (by omega) (Y3r hx)
   ·have : j = all.length := by omega
    subst this
    rw [decide_eq_false (by omega), cond_false]
    simp
 intro k
 induction k with
 | zero => intro j h1; omega
 | succ k ih =>
  intro j hk hj
  have e2 := fun h => Yx (p := fun s => pareto n E p s) (l := all) (j := j) (out := []) h
  simp only [List.nil_append] at e2
  simp only [Z2b, Z55]
  by_cases hjl : j < all.length
  ·rw [decide_eq_true (show (j : Int) < (all.length : Int) by omega), cond_true, Y1 hjl, grd_true, Y2 hjl, Y55 h (hs _ (List.getElem_mem hjl)) hp hN, Option.bind_some, Y0 (j := j) (by omega), e2 hjl]
   cases pareto n E p all[j] with
   | true => rw [cond_true, grd_true, show selOk0 ([] : List (List Int)) 24 = true from rfl, grd_true, if_pos rfl]; exact h1 _ (j + 1) _ _ (by omega) hjl (by simp) Y2m
   | false => exact ih (j + 1) (by omega) hjl
  ·have : j = all.length := by omega
   subst this
   rw [decide_eq_false (by omega), cond_false]
   simp
theorem Y56 {d : Db} {l : List Con} {p : Edges} (h : SmallDb d) (hl : l.length <= 1048576) (hp : p.length <= 1048576) (hN : 1048576 < N) : Z1o N d l p = some (prefs d l p) := by
 unfold Z1o prefs
 rw [Y3h h hN, Option.bind_some]
 have hfew := Ym d l
 have hsub : subsets d l = if validDb d then maxSets d.2.length (edgesOf d l) else [] := rfl
 cases hv : validDb d with
 | false => rw [hsub, hv]; rfl
 | true =>
  rw [hv, if_pos rfl] at hsub
  have hE := Y3p (l := l) (Y4 hv)
  unfold Z28 Z66
  rw [Bool.not_true, cond_false, Y4x h hl hN, Option.bind_some, hv, if_pos rfl, Y5l hE hN, Option.bind_some, <- hsub]
  have := (Y60 (p := p) hE hfew.1 (fun s hs => by have := hfew.2 s hs; omega) hp hN N 0 (by omega) (by omega))
  rw [show ((0 : Nat) : Int) = 0 from rfl] at this
  rw [this]
  simp
theorem Y57 {d : Db} {l : List Con} {p : Edges} (h : SmallDb d) (hl : l.length <= 1048576) (hp : p.length <= 1048576) (hN : 1048576 < N) : Z2c N d l p = some (prefs d l p) := by
 unfold Z2c prefs
 rw [Y1h h hN, Option.bind_some]
 have hfew := Ym d l
 have hsub : subsets d l = if validDb d then maxSets d.2.length (edgesOf d l) else [] := rfl
 cases hv : validDb d with
 | false => rw [hsub, hv]; rfl
 | true =>
  rw [hv, if_pos rfl] at hsub
  have hE := Y3p (l := l) (Y4 hv)
  unfold Z25 Z63
  rw [Bool.not_true, cond_false, Y4u h hl hN, Option.bind_some, hv, if_pos rfl, Y5k hE hN, Option.bind_some, <- hsub]
  have := (Y61 (p := p) hE hfew.1 (fun s hs => by have := hfew.2 s hs; omega) hp hN N 0 (by omega) (by omega))
  rw [show ((0 : Nat) : Int) = 0 from rfl] at this
  rw [this]
  simp
theorem Y3t {α : Type} {s : α -> Nat} {m : Nat} : ∀ {a : List α}, (∀ x ∈ a, s x <= m) -> sumL s a <= a.length * (m + 1)
 | [], _ => by simp [sumL]
 | x :: a, h => by
  have h1 := Y3t (m := m) (a := a) (s := s) fun y hy => h y (by simp [hy])
  have h2 := h x (by simp)
  simp only [sumL, List.length_cons, Nat.add_mul, Nat.one_mul] at h1 ⊢
  simp at h1 ⊢
  omega
theorem law_PreferredRepairs (hN : 1048576 < N) {d : T_Database} {l : T_DenialConstraintS} {p : T_ConflictEdgeS} (hd : in_Database d) (hl : in_DenialConstraintS l) (hp : in_ConflictEdgeS p) : laws_FnExactPreferredRepairs N d l p = some true := by
 unfold laws_FnExactPreferredRepairs
 rw [Y3b hd (by omega) (by omega) hN, Option.bind_some]
 by_cases h1 : (s_Database d : Int) <= 1048576
 case neg => rw [Ya h1]; rfl
 rw [Yf h1, Yk (by omega), cond_false, Y13 hl (by omega) (by omega) hN, Option.bind_some]
 by_cases h2 : (s_DenialConstraintS l : Int) <= 1048576 - (s_Database d : Int)
 case neg => rw [Ya h2]; rfl
 rw [Yf h2, Yk (by omega), cond_false, Y1t hp (by omega) (by omega) hN, Option.bind_some]
 by_cases h3 : (s_ConflictEdgeS p : Int) <= 1048576 - (s_Database d : Int) - (s_DenialConstraintS l : Int)
 case neg => rw [Ya h3]; rfl
 rw [Yf h3, Yk (by omega), cond_false]
 have hb : b_Database d := Y32 (by omega)
 have hbl : b_DenialConstraintS l := Yy (by omega)
 have hbp : b_ConflictEdgeS p := Y1g (by omega)
 have hm := mtOk hN
 have hs := Y5x hb
 have hll : l.length <= 1048576 := hbl
 have hpl : p.length <= 1048576 := hbp
 have hf : (prefs d l p).length <= 16384 /\ ∀ x ∈ prefs d l p, x.length <= 14 := ⟨(Y2e d l p).few, fun x hx => (Ym d l).2 x ((Y2e d l p).sub x hx)⟩
 have hsr : s_IntSS (prefs d l p) <= 16384 * 15 := Nat.le_trans (Y3t (m := 14) fun x hx => hf.2 x hx) (Nat.mul_le_mul hf.1 (by omega))
 have hr : b_IntSS (prefs d l p) := Y48 (by omega)
 have hcd := Y3c d
 have hcl := Y14 l
 have hcp := Y1u p
 have hcr := Y4g (prefs d l p)
 simp only [Y39 hb hN, Y11 hbl hN, Y1r hbp hN, Option.bind_some, Y57 hs hll hpl hN, Y56 hs hll hpl hN, Y4f hr hN, Y3a hb hN, Y12 hbl hN, Y1s hbp hN, decide_true, Bool.not_true, cond_false]
 rw [Y3d hm hb (by omega) (by omega) hN, Option.bind_some]
 simp only
 rw [Y15 hbl (by omega) (by omega) hN, Option.bind_some]
 simp only
 rw [Y1v hbp (by omega) (by omega) hN, Option.bind_some]
 simp only
 rw [Yk (by omega), cond_false, Y4h hr (by omega) (by omega) hN, Option.bind_some]
 simp only [Y4i hr (show (0 : Int) <= 1 by omega) (by omega) hN, Option.bind_some]
 rw [Yk (by omega)]
 simp
end Go.PL
