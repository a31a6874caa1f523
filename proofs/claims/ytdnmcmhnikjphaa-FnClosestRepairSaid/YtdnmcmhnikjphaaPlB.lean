/- The plain law of the functions read plainly. Conditions: those that stand in each theorem. -/
import Derived.Test.YtdnmcmhnikjphaaPlA
import Derived.KernelRfl

set_option linter.unusedVariables false
set_option linter.unusedSimpArgs false
set_option linter.unnecessarySimpa false

namespace Go.PL
variable {N : Nat}
theorem Y6 {x : Int} (h1 : -9223372036854775808 <= x) (h2 : x <= 9223372036854775807) : w64 x = x := by
 unfold w64 IntKind.wrap
 simp [IntKind.bits, IntKind.signed]
 omega
theorem Y0 {j : Nat} (h : j < 4611686018427387904) : w64 ((j : Int) + 1) = ((j + 1 : Nat) : Int) := by
 rw [Y6 (by omega) (by omega)]; omega
@[simp] theorem grd_true {α : Type} (x : Option α) : grd true x = x := rfl
@[simp] theorem grd_false {α : Type} (x : Option α) : grd false x = none := rfl
theorem Y1i {α : Type} {b : Int} (h : b ≠ 0) (x : Option α) : grz b x = x := by simp [grz, h]
@[simp] theorem letv_eq {α β : Type} (v : α) (k : α -> β) : letv v k = k v := rfl
theorem Y3u {α : Type} (j : Nat) (xs : List α) : inb (j : Int) xs = decide (j < xs.length) := by
 simp [inb]
theorem Y1 {α : Type} {j : Nat} {xs : List α} (h : j < xs.length) : inb (j : Int) xs = true := by simp [Y3u, h]
theorem Y3 {α : Type} {d : α} {j : Nat} {xs : List α} (h : j < xs.length) : at_ d xs (j : Int) = xs[j] := by simp [at_, h]
theorem bneI (a b : Int) : (a != b) = !decide (a = b) := by by_cases h : a = b <;> simp [h]
theorem beqI (a b : Int) : (a == b) = decide (a = b) := by by_cases h : a = b <;> simp [h]
theorem Y3v {p : Prop} [Decidable p] {α : Type} (x y : Option α) : (bif !decide p then x else y) = if decide p then y else x := by by_cases h : p <;> simp [h]
theorem loop {σ R : Type} (f : Nat -> σ -> Option R) (I : σ -> Prop) (μ : σ -> Nat) (Q : Option R -> Prop) (hstep : ∀ k s, I s -> Q (f (k + 1) s) \/ ∃ s', I s' /\ μ s' < μ s /\ f (k + 1) s = f k s') : ∀ (k : Nat) (s : σ), μ s < k -> I s -> Q (f k s)
 | 0, s, hk, hs => by omega
 | k + 1, s, hk, hs => by
  rcases hstep k s hs with h | ⟨s', h1, h2, h3⟩
  ·exact h
  ·rw [h3]
   exact loop f I μ Q hstep k s' (by omega) h1
theorem Y1x {n : Nat} (p : Nat -> Bool) (f : Nat -> Int -> Option Bool) (hend : ∀ k, f (k + 1) (n : Int) = some true) (hstep : ∀ k j, j < n -> f (k + 1) (j : Int) = if p j then f k ((j + 1 : Nat) : Int) else some false) {k : Nat} (hk : n < k) : f k 0 = some (decide (∀ j, j < n -> p j = true)) := by
 have := loop (fun k (j : Nat) => f k (j : Int)) (fun j => j <= n /\ ∀ i, i < j -> p i = true) (fun j => n - j) (fun o => o = some (decide (∀ j, j < n -> p j = true))) (fun k j hs => by
  obtain ⟨h1, h2⟩ := hs
  by_cases hj : j < n
  ·rw [hstep k j hj]
   cases hp : p j with
   | true =>
    right
    exact ⟨j + 1, ⟨hj, fun i hi => by rcases Nat.lt_or_eq_of_le (Nat.le_of_lt_succ hi) with h | h; exact h2 i h; rw [h]; exact hp⟩, by omega, by simp⟩
   | false =>
    left
    have : ¬ ∀ j, j < n -> p j = true := fun h => by have := h j hj; rw [hp] at this; simp at this
    simp [this]
  ·left
   have : j = n := by omega
   subst this
   rw [hend]
   simp only [Option.some.injEq]
   symm
   simpa using h2) k 0 (by simpa using hk) ⟨by omega, by omega⟩
 exact this
theorem Ya {R : Type} {n : Nat} (p : Nat -> Bool) (no e : Option R) (f : Nat -> Int -> Option R) (hend : ∀ k, f (k + 1) (n : Int) = e) (hstep : ∀ k j, j < n -> f (k + 1) (j : Int) = if p j then f k ((j + 1 : Nat) : Int) else no) {k : Nat} (hk : n < k) : f k 0 = if ∀ j, j < n -> p j = true then e else no := by
 have := loop (fun k (j : Nat) => f k (j : Int)) (fun j => j <= n /\ ∀ i, i < j -> p i = true) (fun j => n - j) (fun o => o = if ∀ j, j < n -> p j = true then e else no) (fun k j hs => by
  obtain ⟨h1, h2⟩ := hs
  by_cases hj : j < n
  ·rw [hstep k j hj]
   cases hp : p j with
   | true =>
    right
    exact ⟨j + 1, ⟨hj, fun i hi => by rcases Nat.lt_or_eq_of_le (Nat.le_of_lt_succ hi) with h | h; exact h2 i h; rw [h]; exact hp⟩, by omega, by simp⟩
   | false =>
    left
    have : ¬ ∀ j, j < n -> p j = true := fun h => by have := h j hj; rw [hp] at this; simp at this
    simp [this]
  ·left
   have : j = n := by omega
   subst this
   rw [hend, if_pos h2]) k 0 (by simpa using hk) ⟨by omega, by omega⟩
 exact this
theorem first {n : Nat} (p : Nat -> Bool) (f : Nat -> Int -> Option Int) (hend : ∀ k, f (k + 1) (n : Int) = some (-1)) (hstep : ∀ k j, j < n -> f (k + 1) (j : Int) = if p j then some (j : Int) else f k ((j + 1 : Nat) : Int)) {k : Nat} (hk : n < k) :
  (∃ j, j < n /\ p j = true /\ (∀ i, i < j -> p i = false) /\ f k 0 = some (j : Int)) \/ ((∀ i, i < n -> p i = false) /\ f k 0 = some (-1)) := by
 have := loop (fun k (j : Nat) => f k (j : Int)) (fun j => j <= n /\ ∀ i, i < j -> p i = false) (fun j => n - j) (fun o => (∃ j, j < n /\ p j = true /\ (∀ i, i < j -> p i = false) /\ o = some (j : Int)) \/ ((∀ i, i < n -> p i = false) /\ o = some (-1))) (fun k j hs => by
  obtain ⟨h1, h2⟩ := hs
  by_cases hj : j < n
  ·rw [hstep k j hj]
   cases hp : p j with
   | true => left; left; exact ⟨j, hj, hp, h2, rfl⟩
   | false =>
    right
    exact ⟨j + 1, ⟨hj, fun i hi => by rcases Nat.lt_or_eq_of_le (Nat.le_of_lt_succ hi) with h | h; exact h2 i h; rw [h]; exact hp⟩, by omega, by simp⟩
  ·left; right
   have : j = n := by omega
   subst this
   exact ⟨h2, hend k⟩) k 0 (by simpa using hk) ⟨by omega, by omega⟩
 exact this
theorem Y8 {j : Nat} (h : 0 < j) (h2 : j < 4611686018427387904) : w64 ((j : Int) - 1) = ((j - 1 : Nat) : Int) := by
 rw [Y6 (by omega) (by omega)]; omega
theorem Y9 {α : Type} {i : Int} {xs : List α} (h0 : 0 <= i) (h : i < xs.length) : inb i xs = true := by simp [inb, h0, h]
theorem Yw {α : Type} {d : α} {i : Int} {xs : List α} (h0 : 0 <= i) (h : i < xs.length) : at_ d xs i = xs[i.toNat]'(by omega) := by
 unfold at_
 rw [List.getD_eq_getElem?_getD, List.getElem?_eq_getElem (by omega)]
 rfl
abbrev Rel := ByteArray × Int × Int
abbrev Fact := Int × List Int
abbrev Db := List Rel × List Fact
structure SmallDb (d : Db) : Prop where
 rels : d.1.length <= 1048576
 facts : d.2.length <= 1048576
 vals : ∀ f ∈ d.2, f.2.length <= 1048576
theorem Y2c {α : Type} [DecidableEq α] {a b : List α} (h : a.length = b.length) : (a = b) ↔ ∀ j, j < a.length -> (decide (a[j]? = b[j]?)) = true := by
 constructor
 ·rintro rfl j _; simp
 ·intro h2
  apply List.ext_getElem? 
  intro j
  by_cases hj : j < a.length
  ·simpa using h2 j hj
  ·rw [List.getElem?_eq_none (by omega), List.getElem?_eq_none (by omega)]
theorem l1In (N : Nat) (x a b : Int) : Z4 N x a b = some (decide (a <= x /\ x <= b)) := by
 unfold Z4
 by_cases h : a <= x <;> simp [h]
theorem Yk (N : Nat) (x a b : Int) : Z9 N x a b = some (decide (a <= x /\ x <= b)) := by
 unfold Z9
 by_cases h : a <= x <;> simp [h]
def validRel (r : Rel) : Bool := (Z7 0 r).getD false
theorem Y1m (N : Nat) (r : Rel) : Z7 N r = some (validRel r) := by
 have key : ∃ b, Z7 0 r = some b := by
  unfold Z7
  by_cases h : r.1.size = 1
  ·have hb : ∃ b, byteAt r.1 0 = some b := by
    unfold byteAt
    have : (0 : Int).toNat < r.1.size := by omega
    exact ⟨r.1[(0 : Int).toNat], by rw [if_pos (by omega), getElem?_pos]⟩
   obtain ⟨b, hb⟩ := hb
   rw [hb]
   simp only [Option.bind_some, l1In]
   cases ((r.1.size : Int) == 1) with
   | false => exact ⟨_, rfl⟩
   | true =>
    cases decide ((b.toNat : Int) >= 97) with
    | false => exact ⟨_, rfl⟩
    | true =>
     cases decide ((b.toNat : Int) <= 122) with
     | false => exact ⟨_, rfl⟩
     | true =>
      cases decide (1 <= r.2.1 /\ r.2.1 <= 3) with
      | false => exact ⟨_, rfl⟩
      | true => exact ⟨_, rfl⟩
  ·have h0 : ((r.1.size : Int) == 1) = false := by rw [beqI]; simp; omega
   rw [h0]; exact ⟨false, rfl⟩
 obtain ⟨b, hb⟩ := key
 have e : Z7 N r = Z7 0 r := by
  unfold Z7; simp only [l1In]
 rw [e, validRel, hb]; rfl
theorem Y3w (N : Nat) (r : Rel) : Z1q N r = some (validRel r) := by
 rw [<- Y1m N r]
 unfold Z1q Z7
 simp only [l1In, Yk]
def validRels (l : List Rel) : Bool := decide ((∀ j, j < l.length -> (validRel (l.getD j (⟨#[]⟩, 0, 0)) && (decide (j = 0) || slt (l.getD (j - 1) (⟨#[]⟩, 0, 0)).1 (l.getD j (⟨#[]⟩, 0, 0)).1)) = true) /\ l.length <= 4)
theorem Y2 {α : Type} {d : α} {j : Nat} {xs : List α} (h : j < xs.length) : xs.getD j d = xs[j] := by simp [h]
theorem Y1a {l : List Rel} (hl : l.length <= 1048576) (hN : 1048576 < N) : Z0c N l = some (validRels l) := by
 unfold Z0c Z30
 rw [Ya (n := l.length) (fun j => validRel (l.getD j (⟨#[]⟩, 0, 0)) && (decide (j = 0) || slt (l.getD (j - 1) (⟨#[]⟩, 0, 0)).1 (l.getD j (⟨#[]⟩, 0, 0)).1)) (some false) (some (decide (l.length <= 4))) (fun k i => Z0i N k l i)
  (fun k => by simp [Z0i, Z14]; omega) (fun k j hj => ?_) (by omega)]
 ·unfold validRels
  by_cases h : ∀ j, j < l.length -> (validRel (l.getD j (⟨#[]⟩, 0, 0)) && (decide (j = 0) || slt (l.getD (j - 1) (⟨#[]⟩, 0, 0)).1 (l.getD j (⟨#[]⟩, 0, 0)).1)) = true
  ·rw [if_pos h]; congr 1; exact decide_eq_decide.2 ⟨fun h2 => ⟨h, h2⟩, fun h2 => h2.2⟩
  ·rw [if_neg h]; congr 1; symm; exact decide_eq_false fun h2 => h h2.1
 ·have h1 : (j : Int) < (l.length : Int) := by omega
  simp only [Z0i, Z14, h1, decide_true, cond_true, Y1 hj, grd_true, Y3 hj, Y1m, Option.bind_some, Y2 hj, Y0 (j := j) (by omega)]
  cases validRel l[j] with
  | false => rfl
  | true =>
   simp only [Bool.not_true, cond_false, Bool.true_and]
   by_cases h0 : j = 0
   ·subst h0; simp
   ·have h3 : (j : Int) > 0 := by omega
    have h4 : j - 1 < l.length := by omega
    simp only [h3, decide_true, cond_true, Y8 (show 0 < j by omega) (by omega), Y1 h4, grd_true, Y3 h4, h0, decide_false, Bool.false_or, Y2 h4]
    cases slt l[j - 1].1 l[j].1 <;> rfl
theorem Y3g {l : List Rel} (hl : l.length <= 1048576) (hN : 1048576 < N) : Z1c N l = some (validRels l) := by
 rw [<- Y1a hl hN]
 unfold Z1c Z4m Z0c Z30
 rw [Ya (n := l.length) (fun j => validRel (l.getD j (⟨#[]⟩, 0, 0)) && (decide (j = 0) || slt (l.getD (j - 1) (⟨#[]⟩, 0, 0)).1 (l.getD j (⟨#[]⟩, 0, 0)).1)) (some false) (some (decide (l.length <= 4))) (fun k i => Z0i N k l i)
  (fun k => by simp [Z0i, Z14]; omega) (fun k j hj => ?_) (by omega),
  Ya (n := l.length) (fun j => validRel (l.getD j (⟨#[]⟩, 0, 0)) && (decide (j = 0) || slt (l.getD (j - 1) (⟨#[]⟩, 0, 0)).1 (l.getD j (⟨#[]⟩, 0, 0)).1)) (some false) (some (decide (l.length <= 4))) (fun k i => Z1e N k l l (l.length : Int) i)
  (fun k => by simp [Z1e, Z2k]; omega) (fun k j hj => ?_) (by omega)]
 ·have h1 : (j : Int) < (l.length : Int) := by omega
  simp only [Z1e, Z2k, h1, decide_true, cond_true, Y1 hj, grd_true, Y3 hj, Y3w, Option.bind_some, Y2 hj, Y0 (j := j) (by omega)]
  cases validRel l[j] with
  | false => rfl
  | true =>
   simp only [Bool.not_true, cond_false, Bool.true_and]
   by_cases h0 : j = 0
   ·subst h0; simp
   ·have h3 : (j : Int) > 0 := by omega
    have h4 : j - 1 < l.length := by omega
    simp only [h3, decide_true, cond_true, Y8 (show 0 < j by omega) (by omega), Y1 h4, grd_true, Y3 h4, h0, decide_false, Bool.false_or, Y2 h4]
    cases slt l[j - 1].1 l[j].1 <;> rfl
 ·have h1 : (j : Int) < (l.length : Int) := by omega
  simp only [Z0i, Z14, h1, decide_true, cond_true, Y1 hj, grd_true, Y3 hj, Y1m, Option.bind_some, Y2 hj, Y0 (j := j) (by omega)]
  cases validRel l[j] with
  | false => rfl
  | true =>
   simp only [Bool.not_true, cond_false, Bool.true_and]
   by_cases h0 : j = 0
   ·subst h0; simp
   ·have h3 : (j : Int) > 0 := by omega
    have h4 : j - 1 < l.length := by omega
    simp only [h3, decide_true, cond_true, Y8 (show 0 < j by omega) (by omega), Y1 h4, grd_true, Y3 h4, h0, decide_false, Bool.false_or, Y2 h4]
    cases slt l[j - 1].1 l[j].1 <;> rfl
def validVals (xs : List Int) : Bool := xs.all fun x => decide (0 <= x /\ x <= 9)
theorem Y2m {α : Type} {d : α} {xs : List α} {p : α -> Bool} : (∀ j, j < xs.length -> p (xs.getD j d) = true) ↔ xs.all p = true := by
 rw [List.all_eq_true]
 constructor
 ·intro h x hx
  obtain ⟨i, hi, rfl⟩ := List.mem_iff_getElem.1 hx
  have := h i hi
  rwa [Y2 hi] at this
 ·intro h j hj
  rw [Y2 hj]
  exact h _ (List.getElem_mem hj)
def fact1 (l : List Rel) (f : Fact) : Bool := decide (0 <= f.1 /\ f.1 <= (l.length : Int) - 1) && (decide ((f.2.length : Int) = (l.getD f.1.toNat (⟨#[]⟩, 0, 0)).2.1) && validVals f.2)
theorem Yl {l : List Rel} {f : Fact} (hl : l.length <= 1048576) (hf : f.2.length <= 1048576) (hN : 1048576 < N) : Z0k N l f = some (validRels l && fact1 l f) := by
 obtain ⟨r, v⟩ := f
 unfold Z0k Z66
 rw [Y1a hl hN, Option.bind_some]
 cases validRels l with
 | false => rfl
 | true =>
  simp only [Bool.not_true, cond_false, l1In, Option.bind_some, Bool.true_and, fact1]
  rw [Y6 (by omega) (by omega)]
  by_cases h : 0 <= r /\ r <= (l.length : Int) - 1
  ·have h2 : r.toNat < l.length := by omega
   simp only [h, and_self, decide_true, Bool.not_true, cond_false, Y9 h.1 (show r < l.length by omega), grd_true, Yw h.1 (show r < l.length by omega), bneI, Y2 h2, Bool.true_and]
   by_cases h3 : (v.length : Int) = l[r.toNat].2.1
   ·simp only [h3, decide_true, Bool.not_true, cond_false, Bool.true_and]
    rw [Ya (n := v.length) (fun j => decide (0 <= v.getD j 0 /\ v.getD j 0 <= 9)) (some false) (some true) (fun k i => Z2l N k r v i) (fun k => by simp [Z2l, Z3w]) (fun k j hj => ?_) (by simp only at hf; omega)]
    ·unfold validVals
     by_cases h4 : ∀ j, j < v.length -> decide (0 <= v.getD j 0 /\ v.getD j 0 <= 9) = true
     ·rw [if_pos h4, (Y2m (d := (0 : Int)) (p := fun x => decide (0 <= x /\ x <= 9))).1 h4]
     ·rw [if_neg h4]
      congr 1; symm
      rw [Bool.eq_false_iff]
      exact fun h5 => h4 ((Y2m (d := (0 : Int)) (p := fun x => decide (0 <= x /\ x <= 9))).2 h5)
    ·have h1 : (j : Int) < (v.length : Int) := by omega
     simp only at hf
     simp only [Z2l, Z3w, h1, decide_true, cond_true, Y1 hj, grd_true, Y3 hj, l1In, Option.bind_some, Y2 hj, Y0 (j := j) (by omega), Y3v]
   ·simp only [h3, decide_false, Bool.not_false, cond_true, Bool.false_and]
  ·simp only [h, decide_false, Bool.not_false, cond_true, Bool.false_and]
def cmpInts : List Int -> List Int -> Int
 | [], [] => 0
 | [], _ :: _ => -1
 | _ :: _, [] => 1
 | a :: x, b :: y => if a < b then -1 else if a > b then 1 else cmpInts x y
theorem Y1j : ∀ (a b : List Int), cmpInts a b = 0 ↔ a = b
 | [], [] => by simp [cmpInts]
 | [], _ :: _ => by simp [cmpInts]
 | _ :: _, [] => by simp [cmpInts]
 | a :: x, b :: y => by
  simp only [cmpInts, List.cons.injEq]
  split
  ·rename_i h; constructor
   ·intro h; omega
   ·intro h2; omega
  ·split
   ·rename_i h; constructor
    ·intro h; omega
    ·intro h2; omega
   ·rw [Y1j x y]
    constructor
    ·intro h; exact ⟨by omega, h⟩
    ·intro h; exact h.2
theorem Y1y {a b : List Int} (ha : a.length <= 1048576) (hb : b.length <= 1048576) (hN : 1048576 < N) : Z3n N a b = some (cmpInts a b) := by
 unfold Z3n Z7z
 have := loop (fun k (j : Nat) => Z3e N k a b (j : Int)) (fun j => j <= a.length /\ j <= b.length /\ cmpInts (a.drop j) (b.drop j) = cmpInts a b) (fun j => a.length - j) (fun o => o = some (cmpInts a b)) (fun k j hs => by
  obtain ⟨h1, h2, h3⟩ := hs
  by_cases hj : j < a.length
  ·by_cases hjb : j < b.length
   ·have e1 : (j : Int) < (a.length : Int) := by omega
    have e2 : (j : Int) < (b.length : Int) := by omega
    simp only [Z3e, Z4i, e1, e2, decide_true, cond_true, Y1 hj, Y1 hjb, grd_true, Y3 hj, Y3 hjb, Y0 (j := j) (by omega)]
    rw [List.drop_eq_getElem_cons hj, List.drop_eq_getElem_cons hjb] at h3
    simp only [cmpInts] at h3
    by_cases hlt : a[j] < b[j]
    ·left; simp only [hlt, if_true, decide_true, cond_true] at h3 ⊢; rw [h3]
    ·by_cases hgt : a[j] > b[j]
     ·left; simp only [hlt, hgt, if_true, if_false, decide_true, decide_false, cond_true, cond_false] at h3 ⊢; rw [h3]
     ·right
      simp only [hlt, hgt, if_false, decide_false, cond_false] at h3 ⊢
      exact ⟨j + 1, ⟨by omega, by omega, h3⟩, by omega, rfl⟩
   ·left
    have e1 : (j : Int) < (a.length : Int) := by omega
    have e2 : ¬ (j : Int) < (b.length : Int) := by omega
    have e3 : ¬ (a.length : Int) < (b.length : Int) := by omega
    have e4 : (a.length : Int) > (b.length : Int) := by omega
    simp only [Z3e, Z4i, e1, e2, e3, e4, decide_true, decide_false, cond_true, cond_false]
    rw [List.drop_eq_getElem_cons hj, List.drop_of_length_le (l := b) (by omega)] at h3
    rw [<- h3]; rfl
  ·left
   have hja : j = a.length := by omega
   have e1 : ¬ (j : Int) < (a.length : Int) := by omega
   simp only [Z3e, Z4i, e1, decide_false, cond_false]
   rw [List.drop_of_length_le (l := a) (by omega)] at h3
   by_cases hlt : a.length < b.length
   ·have e2 : (a.length : Int) < (b.length : Int) := by omega
    simp only [e2, decide_true, cond_true]
    rw [List.drop_eq_getElem_cons (by omega)] at h3
    rw [<- h3]; rfl
   ·have e2 : ¬ (a.length : Int) < (b.length : Int) := by omega
    have e3 : ¬ (a.length : Int) > (b.length : Int) := by omega
    simp only [e2, e3, decide_false, cond_false]
    rw [List.drop_of_length_le (by omega)] at h3
    rw [<- h3]; rfl) N 0 (by omega) ⟨by omega, by omega, rfl⟩
 exact this
theorem Y3h {a b : List Int} (ha : a.length <= 1048576) (hb : b.length <= 1048576) (hN : 1048576 < N) : Z17 N a b = some (cmpInts a b) := by
 have hc : ∀ x y : Int, Z32 N x y = some (if x < y then -1 else if x > y then 1 else 0) := by
  intro x y
  simp only [Z32, Z42, Option.bind_some, bneI, decide_true, Bool.not_true, cond_false]
  by_cases h1 : x < y
  ·simp [h1]
  ·by_cases h2 : x > y <;> simp [h1, h2]
 unfold Z17 Z49
 have := loop (fun k (j : Nat) => Z0w N k a b a (a.length : Int) (j : Int)) (fun j => j <= a.length /\ j <= b.length /\ cmpInts (a.drop j) (b.drop j) = cmpInts a b) (fun j => a.length - j) (fun o => o = some (cmpInts a b)) (fun k j hs => by
  obtain ⟨h1, h2, h3⟩ := hs
  by_cases hj : j < a.length
  ·have e1 : (j : Int) < (a.length : Int) := by omega
   by_cases hjb : j < b.length
   ·have e2 : ¬ (j : Int) >= (b.length : Int) := by omega
    simp only [Z0w, Z1f, e1, e2, decide_true, decide_false, cond_true, cond_false, Y1 hj, Y1 hjb, grd_true, Y3 hj, Y3 hjb, Y0 (j := j) (by omega), hc, Option.bind_some]
    rw [List.drop_eq_getElem_cons hj, List.drop_eq_getElem_cons hjb] at h3
    simp only [cmpInts] at h3
    by_cases hlt : a[j] < b[j]
    ·left; simp only [hlt, if_true] at h3 ⊢; rw [<- h3]; rfl
    ·by_cases hgt : a[j] > b[j]
     ·left; simp only [hlt, hgt, if_true, if_false] at h3 ⊢; rw [<- h3]; rfl
     ·right
      simp only [hlt, hgt, if_false] at h3 ⊢
      exact ⟨j + 1, ⟨by omega, by omega, h3⟩, by omega, rfl⟩
   ·left
    have e2 : (j : Int) >= (b.length : Int) := by omega
    simp only [Z0w, Z1f, e1, e2, decide_true, cond_true, Y1 hj, grd_true]
    rw [List.drop_eq_getElem_cons hj, List.drop_of_length_le (l := b) (by omega)] at h3
    rw [<- h3]; rfl
  ·left
   have e1 : ¬ (j : Int) < (a.length : Int) := by omega
   simp only [Z0w, Z1f, e1, decide_false, cond_false]
   rw [List.drop_of_length_le (l := a) (by omega)] at h3
   by_cases hlt : a.length < b.length
   ·have e2 : (a.length : Int) < (b.length : Int) := by omega
    simp only [e2, decide_true, cond_true]
    rw [List.drop_eq_getElem_cons (by omega)] at h3
    rw [<- h3]; rfl
   ·have e2 : ¬ (a.length : Int) < (b.length : Int) := by omega
    simp only [e2, decide_false, cond_false]
    rw [List.drop_of_length_le (by omega)] at h3
    rw [<- h3]; rfl) N 0 (by omega) ⟨by omega, by omega, rfl⟩
 exact this
def cmpFacts (a b : Fact) : Int := if a.1 < b.1 then -1 else if a.1 > b.1 then 1 else cmpInts a.2 b.2
theorem Y1n {a b : Fact} (ha : a.2.length <= 1048576) (hb : b.2.length <= 1048576) (hN : 1048576 < N) : Z0z N a b = some (cmpFacts a b) := by
 unfold Z0z cmpFacts
 rw [Y1y ha hb hN]
 by_cases h1 : a.1 < b.1
 ·simp [h1]
 ·by_cases h2 : a.1 > b.1 <;> simp [h1, h2]
theorem Y3x {a b : Fact} (ha : a.2.length <= 1048576) (hb : b.2.length <= 1048576) (hN : 1048576 < N) : Z2i N a b = some (cmpFacts a b) := by
 unfold Z2i cmpFacts Z5i
 rw [Y3h ha hb hN, bneI]
 by_cases h1 : a.1 < b.1
 ·have : ¬ a.1 = b.1 := by omega
  simp [h1, this]
 ·by_cases h2 : a.1 > b.1
  ·have : ¬ a.1 = b.1 := by omega
   simp [h1, h2, this]
  ·have : a.1 = b.1 := by omega
   simp [this]
theorem Y1z {α : Type} (d : α) {xs : List α} {p : α -> Bool} : (∃ j, j < xs.length /\ p (xs.getD j d) = true) ↔ xs.any p = true := by
 rw [List.any_eq_true]
 constructor
 ·rintro ⟨j, hj, h⟩
  rw [Y2 hj] at h
  exact ⟨_, List.getElem_mem hj, h⟩
 ·rintro ⟨x, hx, h⟩
  obtain ⟨i, hi, rfl⟩ := List.mem_iff_getElem.1 hx
  exact ⟨i, hi, by rw [Y2 hi]; exact h⟩
theorem Ys {α : Type} {d : α} {xs : List α} {p : α -> Bool} {g : Option Int} (h : (∃ j, j < xs.length /\ p (xs.getD j d) = true /\ (∀ i, i < j -> p (xs.getD i d) = false) /\ g = some (j : Int)) \/ ((∀ i, i < xs.length -> p (xs.getD i d) = false) /\ g = some (-1))) : (g.bind fun r => some (decide (r >= 0))) = some (xs.any p) := by
 rcases h with ⟨j, h1, h2, _, rfl⟩ | ⟨h1, rfl⟩
 ·rw [(Y1z d).1 ⟨j, h1, h2⟩]
  simp
 ·have : xs.any p = false := by
   rw [Bool.eq_false_iff]
   intro h
   obtain ⟨j, hj, h2⟩ := (Y1z d).2 h
   rw [h1 j hj] at h2; simp at h2
  rw [this]; rfl
theorem Y2z {v : List Int} (hv : v.length <= 1048576) (hN : 1048576 < N) : Z3k N v = some (validVals v) := by
 unfold Z3k Z0b Z0g Z1r
 rw [Ys (d := (0 : Int)) (xs := v) (p := fun x => !decide (0 <= x /\ x <= 9)) (first (n := v.length) (fun j => !decide (0 <= v.getD j 0 /\ v.getD j 0 <= 9)) (fun k i => Z0a N k v (v.length : Int) i) (fun k => by simp [Z0a, Z0r]) (fun k j hj => ?_) (by omega))]
 ·simp only [Option.bind_some, validVals]
  rw [show (v.any fun x => !decide (0 <= x /\ x <= 9)) = !(v.all fun x => decide (0 <= x /\ x <= 9)) from (List.not_all_eq_any_not (l := v) (p := fun x => decide (0 <= x /\ x <= 9))).symm, Bool.not_not]
 ·have h1 : (j : Int) < (v.length : Int) := by omega
  simp only [Z0a, Z0r, h1, decide_true, cond_true, Y1 hj, grd_true, Y3 hj, Z33, Yk, Option.bind_some, Y2 hj, Y0 (j := j) (by omega)]
  cases decide (0 <= v[j] /\ v[j] <= 9) <;> rfl
theorem Y30 {l : List Rel} {f : Fact} (hl : l.length <= 1048576) (hf : f.2.length <= 1048576) (hN : 1048576 < N) : Z55 N l f = some (fact1 l f) := by
 obtain ⟨r, v⟩ := f
 simp only [Z55, Yk, Option.bind_some, fact1]
 rw [Y6 (by omega) (by omega)]
 by_cases h : 0 <= r /\ r <= (l.length : Int) - 1
 ·have h2 : r.toNat < l.length := by omega
  simp only [h, and_self, decide_true, cond_true, Y9 h.1 (show r < l.length by omega), grd_true, Yw h.1 (show r < l.length by omega), beqI, Y2 h2, Bool.true_and]
  simp only at hf
  rw [Y2z hf hN]
  cases decide ((v.length : Int) = l[r.toNat].2.1) <;> rfl
 ·simp only [h, decide_false, cond_false, Bool.false_and]
def factAt (d : Db) (j : Nat) : Fact := d.2.getD j (0, [])
def factsOk (d : Db) : Prop := ∀ j, j < d.2.length -> (fact1 d.1 (factAt d j) && (decide (j = 0) || decide (cmpFacts (factAt d (j - 1)) (factAt d j) < 0))) = true
instance (d : Db) : Decidable (factsOk d) := by unfold factsOk; infer_instance
def validDb (d : Db) : Bool := validRels d.1 && (decide (d.2.length <= 14) && decide (factsOk d))
theorem Ym {d : Db} (h : SmallDb d) (hN : 1048576 < N) : Z5 N d = some (validDb d) := by
 have hv : ∀ j, j < d.2.length -> (factAt d j).2.length <= 1048576 := fun j hj => by unfold factAt; rw [Y2 hj]; exact h.vals _ (List.getElem_mem hj)
 unfold Z5 Z53
 rw [Ya (n := d.2.length) (fun j => (validRels d.1 && fact1 d.1 (factAt d j)) && (decide (j = 0) || decide (cmpFacts (factAt d (j - 1)) (factAt d j) < 0))) (some false) (some (validRels d.1 && decide (d.2.length <= 14))) (fun k i => Z1o N k d.1 d.2 i)
  (fun k => by
   simp only [Z1o, Z2y, Int.lt_irrefl, decide_false, cond_false, Y1a h.rels hN, Option.bind_some]
   cases validRels d.1 with
   | false => rfl
   | true => simp only [cond_true, Bool.true_and, Option.some.injEq]; exact decide_eq_decide.2 (by omega)) (fun k j hj => ?_) (by have := h.facts; omega)]
 ·unfold validDb factsOk
  cases hr : validRels d.1 with
  | true =>
   simp only [Bool.true_and]
   by_cases h2 : ∀ j, j < d.2.length -> (fact1 d.1 (factAt d j) && (decide (j = 0) || decide (cmpFacts (factAt d (j - 1)) (factAt d j) < 0))) = true
   ·rw [if_pos h2, decide_eq_true h2, Bool.and_true]
   ·rw [if_neg h2, decide_eq_false h2, Bool.and_false]
  | false => simp
 ·have h1 : (j : Int) < (d.2.length : Int) := by omega
  have hf := h.facts
  have ha : at_ (0, []) d.2 (j : Int) = factAt d j := by unfold factAt; rw [Y3 hj, Y2 hj]
  simp only [Z1o, Z2y, h1, decide_true, cond_true, Y1 hj, grd_true, ha, Yl h.rels (hv j hj) hN, Option.bind_some, Y0 (j := j) (by omega)]
  cases validRels d.1 && fact1 d.1 (factAt d j) with
  | false => rfl
  | true =>
   simp only [Bool.not_true, cond_false, Bool.true_and]
   by_cases h0 : j = 0
   ·subst h0; simp
   ·have h3 : (j : Int) > 0 := by omega
    have h4 : j - 1 < d.2.length := by omega
    have hb : at_ (0, []) d.2 ((j - 1 : Nat) : Int) = factAt d (j - 1) := by unfold factAt; rw [Y3 h4, Y2 h4]
    simp only [h3, decide_true, cond_true, Y8 (show 0 < j by omega) (by omega), Y1 h4, grd_true, hb, Y1n (hv _ h4) (hv _ hj) hN, Option.bind_some, h0, decide_false, Bool.false_or]
    by_cases h5 : cmpFacts (factAt d (j - 1)) (factAt d j) < 0
    ·have : ¬ cmpFacts (factAt d (j - 1)) (factAt d j) >= 0 := by omega
     simp [h5, this]
    ·have : cmpFacts (factAt d (j - 1)) (factAt d j) >= 0 := by omega
     simp [h5, this]
theorem Y1k {d : Db} (h : SmallDb d) (hN : 1048576 < N) : Z0d N d = some (validDb d) := by
 have hv : ∀ j, j < d.2.length -> (factAt d j).2.length <= 1048576 := fun j hj => by unfold factAt; rw [Y2 hj]; exact h.vals _ (List.getElem_mem hj)
 unfold Z0d Z56
 rw [Y3g h.rels hN, Option.bind_some]
 unfold validDb
 cases validRels d.1 with
 | false => rfl
 | true =>
  simp only [Bool.not_true, cond_false, Bool.true_and]
  by_cases h14 : d.2.length <= 14
  ·have : ¬ (d.2.length : Int) > 14 := by omega
   simp only [this, decide_false, cond_false, h14, decide_true, Bool.true_and]
   rw [Ya (n := d.2.length) (fun j => fact1 d.1 (factAt d j) && (decide (j = 0) || decide (cmpFacts (factAt d (j - 1)) (factAt d j) < 0))) (some false) (some true) (fun k i => Z1p N k d.1 d.2 d.2 (d.2.length : Int) i)
    (fun k => by simp [Z1p, Z2z]) (fun k j hj => ?_) (by omega)]
   ·unfold factsOk
    by_cases h2 : ∀ j, j < d.2.length -> (fact1 d.1 (factAt d j) && (decide (j = 0) || decide (cmpFacts (factAt d (j - 1)) (factAt d j) < 0))) = true
    ·rw [if_pos h2, decide_eq_true h2]
    ·rw [if_neg h2, decide_eq_false h2]
   ·have h1 : (j : Int) < (d.2.length : Int) := by omega
    have ha : at_ (0, []) d.2 (j : Int) = factAt d j := by unfold factAt; rw [Y3 hj, Y2 hj]
    simp only [Z1p, Z2z, h1, decide_true, cond_true, Y1 hj, grd_true, ha, Y30 h.rels (hv j hj) hN, Option.bind_some, Y0 (j := j) (by omega)]
    cases fact1 d.1 (factAt d j) with
    | false => rfl
    | true =>
     simp only [Bool.not_true, cond_false, Bool.true_and]
     by_cases h0 : j = 0
     ·subst h0; simp
     ·have h3 : (j : Int) > 0 := by omega
      have h4 : j - 1 < d.2.length := by omega
      have hb : at_ (0, []) d.2 ((j - 1 : Nat) : Int) = factAt d (j - 1) := by unfold factAt; rw [Y3 h4, Y2 h4]
      simp only [h3, decide_true, cond_true, Y8 (show 0 < j by omega) (by omega), Y1 h4, grd_true, hb, Y3x (hv _ h4) (hv _ hj) hN, Option.bind_some, h0, decide_false, Bool.false_or]
      by_cases h5 : cmpFacts (factAt d (j - 1)) (factAt d j) < 0
      ·have : ¬ cmpFacts (factAt d (j - 1)) (factAt d j) >= 0 := by omega
       simp [h5, this]
      ·have : cmpFacts (factAt d (j - 1)) (factAt d j) >= 0 := by omega
       simp [h5, this]
  ·have : (d.2.length : Int) > 14 := by omega
   simp [this, h14]
theorem Y10 : ∀ (a b c : List Int), cmpInts a b < 0 -> cmpInts b c < 0 -> cmpInts a c < 0
 | [], [], c, h, _ => by simp [cmpInts] at h
 | [], _ :: _, [], _, h => by simp [cmpInts] at h
 | [], _ :: _, _ :: _, _, _ => by simp [cmpInts]
 | _ :: _, [], c, h, _ => by simp [cmpInts] at h
 | _ :: _, _ :: _, [], _, h => by simp [cmpInts] at h
 | x :: a, y :: b, z :: c, h1, h2 => by
  simp only [cmpInts] at h1 h2 ⊢
  by_cases hxy : x < y
  ·by_cases hyz : y < z
   ·rw [if_pos (by omega)]; omega
   ·rw [if_neg hyz] at h2
    split at h2
    ·omega
    ·rw [if_pos (by omega)]; omega
  ·rw [if_neg hxy] at h1
   split at h1
   ·omega
   ·have : x = y := by omega
    subst this
    by_cases hyz : x < z
    ·rw [if_pos hyz]; omega
    ·rw [if_neg hyz] at h2 ⊢
     split at h2
     ·omega
     ·rename_i hg
      rw [if_neg hg]
      exact Y10 a b c h1 h2
theorem Y1o {a b c : Fact} (h1 : cmpFacts a b < 0) (h2 : cmpFacts b c < 0) : cmpFacts a c < 0 := by
 unfold cmpFacts at h1 h2 ⊢
 by_cases hab : a.1 < b.1
 ·by_cases hbc : b.1 < c.1
  ·rw [if_pos (by omega)]; omega
  ·rw [if_neg hbc] at h2
   split at h2
   ·omega
   ·rw [if_pos (by omega)]; omega
 ·rw [if_neg hab] at h1
  split at h1
  ·omega
  ·by_cases hbc : b.1 < c.1
   ·rw [if_pos (by omega)]; omega
   ·rw [if_neg hbc] at h2
    split at h2
    ·omega
    ·rw [if_neg (by omega), if_neg (by omega)]
     exact Y10 _ _ _ h1 h2
section
variable (S : Nat -> Nat -> Bool)
def blk (n s : Nat) : List Nat := (List.range n).filter (S s)
def isSt (s : Nat) : Bool := (List.range s).all fun k => !S s k
def sts (n : Nat) : List Nat := (List.range n).filter (isSt S)
def B (n : Nat) : List (List Nat) := (sts S n).map (blk S n)
variable {S}
end
def keyLen (l : List Rel) (f : Fact) : Int := (l.getD f.1.toNat (⟨#[]⟩, 0, 0)).2.2
def keyOf (l : List Rel) (f : Fact) : List Int := f.2.take (keyLen l f).toNat
def sameK (l : List Rel) (a b : Fact) : Bool := decide (a.1 = b.1) && decide (keyOf l a = keyOf l b)
theorem Y20 {r : Rel} (h : validRel r = true) : 0 <= r.2.2 /\ r.2.2 <= r.2.1 := by
 unfold validRel Z7 at h
 by_cases h1 : r.1.size = 1
 ·have hb : ∃ b, byteAt r.1 0 = some b := by
   unfold byteAt
   have : (0 : Int).toNat < r.1.size := by omega
   exact ⟨r.1[(0 : Int).toNat], by rw [if_pos (by omega), getElem?_pos]⟩
  obtain ⟨b, hb⟩ := hb
  rw [hb] at h
  simp only [Option.bind_some, l1In] at h
  by_cases h2 : 0 <= r.2.2 /\ r.2.2 <= r.2.1
  ·exact h2
  ·rw [decide_eq_false h2] at h
   exfalso
   revert h
   cases ((r.1.size : Int) == 1) <;> cases decide ((b.toNat : Int) >= 97) <;> cases decide ((b.toNat : Int) <= 122) <;> cases decide (1 <= r.2.1 /\ r.2.1 <= 3) <;> simp
 ·have h0 : ((r.1.size : Int) == 1) = false := by rw [beqI]; simp; omega
  rw [h0] at h
  simp at h
theorem Yn {l : List Rel} (h : validRels l = true) {j : Nat} (hj : j < l.length) : validRel (l.getD j (⟨#[]⟩, 0, 0)) = true := by
 have := (of_decide_eq_true h).1 j hj
 rw [Bool.and_eq_true] at this
 exact this.1
structure GoodFact (l : List Rel) (f : Fact) : Prop where
 lo : 0 <= f.1
 hi : f.1 < (l.length : Int)
 len : (f.2.length : Int) = (l.getD f.1.toNat (⟨#[]⟩, 0, 0)).2.1
 k0 : 0 <= keyLen l f
 k1 : keyLen l f <= (f.2.length : Int)
theorem Yo {l : List Rel} {f : Fact} (hl : validRels l = true) (hf : fact1 l f = true) : GoodFact l f := by
 unfold fact1 at hf
 rw [Bool.and_eq_true, Bool.and_eq_true, decide_eq_true_eq, decide_eq_true_eq] at hf
 obtain ⟨⟨h1, h2⟩, h3, h4⟩ := hf
 have := Y20 (Yn hl (j := f.1.toNat) (by omega))
 exact ⟨h1, by omega, h3, this.1, by rw [h3]; exact this.2⟩
theorem Y31 {a b : List Int} (ha : a.length <= 1048576) (hN : 1048576 < N) : Z1h N a b = some (decide (a = b)) := by
 unfold Z1h Z4p
 by_cases hl : a.length = b.length
 ·have : ((a.length : Int) != (b.length : Int)) = false := by rw [bneI]; simp; omega
  rw [this, cond_false, Y1x (n := a.length) (fun j => decide (a[j]? = b[j]?)) (fun k i => Z1g N k a b (a.length : Int) i) (fun k => by simp [Z1g, Z2p]) (fun k j hj => ?_) (by omega)]
  ·congr 1
   exact decide_eq_decide.2 (Y2c hl).symm
  ·have h1 : (j : Int) < (a.length : Int) := by omega
   have hjb : j < b.length := by omega
   simp only [Z1g, Z2p, h1, decide_true, cond_true, Y1 hj, Y1 hjb, grd_true, Y3 hj, Y3 hjb, Y0 (j := j) (by omega), bneI, List.getElem?_eq_getElem hj, List.getElem?_eq_getElem hjb, Option.some.injEq]
   by_cases h : a[j] = b[j] <;> simp [h]
 ·have : ((a.length : Int) != (b.length : Int)) = true := by rw [bneI]; simp; omega
  have hne : ¬ a = b := fun h => hl (by rw [h])
  rw [this, cond_true, decide_eq_false hne]
theorem Yx {lo hi : Int} {n : Nat} (h1 : 0 <= lo) (h2 : lo <= hi) (h3 : hi <= (n : Int)) : subOk lo hi n = true := by
 unfold subOk; rw [decide_eq_true h1, decide_eq_true h2, decide_eq_true h3]; rfl
theorem Y4 {α : Type} {s x : List α} {b : Nat} (hb : b <= 1000) (h : s.length + x.length <= 140737488355) : appOk s x b = true := by
 unfold appOk
 refine decide_eq_true ?_
 calc (s.length + x.length) * b <= 140737488355 * 1000 := Nat.mul_le_mul h hb
  _ <= _ := by omega
theorem Y2n {l : List Rel} {f : Fact} (hl : l.length <= 1048576) (hf : f.2.length <= 1048576) (hN : 1048576 < N) (hv : validRels l = true) (h1 : fact1 l f = true) : Z50 N l f = some (keyOf l f) := by
 have g := Yo hv h1
 have e : (at_ (⟨#[]⟩, 0, 0) l f.1).2.2 = keyLen l f := rfl
 unfold Z50
 rw [Yl hl hf hN, hv, h1, Option.bind_some, Y9 g.lo g.hi, grd_true]
 simp only [Bool.and_self, Bool.not_true, cond_false, e]
 rw [Yx (by omega) g.k0 g.k1, grd_true, Y4 (by omega) (by simp only [List.length_nil, List.length_take]; omega), grd_true]
 rfl
theorem Y3i {l : List Rel} {a b : Fact} (hl : l.length <= 1048576) (ha : a.2.length <= 1048576) (hb : b.2.length <= 1048576) (hN : 1048576 < N) (hv : validRels l = true) (h1 : fact1 l a = true) (h2 : fact1 l b = true) : Z2v N l a b = some (sameK l a b) := by
 unfold Z2v sameK
 rw [Yl hl ha hN, Yl hl hb hN, hv, h1, h2]
 simp only [Bool.and_self, Option.bind_some, cond_true, beqI]
 by_cases h : a.1 = b.1
 ·rw [decide_eq_true h, cond_true, Y2n hl ha hN hv h1, Y2n hl hb hN hv h2, Option.bind_some, Option.bind_some,
   Y1y (by unfold keyOf; rw [List.length_take]; omega) (by unfold keyOf; rw [List.length_take]; omega) hN, Option.bind_some, Bool.true_and]
  congr 1
  exact decide_eq_decide.2 (Y1j _ _)
 ·rw [decide_eq_false h]; rfl
theorem Y3j {l : List Rel} {a b : Fact} (ha : a.2.length <= 1048576) (hb : b.2.length <= 1048576) (hN : 1048576 < N) (hv : validRels l = true) (h1 : fact1 l a = true) (h2 : fact1 l b = true) : Z4n N l a b = some (sameK l a b) := by
 have g := Yo hv h1
 have g' := Yo hv h2
 have e : (at_ (⟨#[]⟩, 0, 0) l a.1).2.2 = keyLen l a := rfl
 unfold Z4n sameK
 rw [bneI]
 by_cases h : a.1 = b.1
 ·have hk : keyLen l a = keyLen l b := by unfold keyLen; rw [h]
  rw [decide_eq_true h, Bool.not_true, cond_false, Y9 g.lo g.hi, grd_true, e]
  rw [Yx (by omega) g.k0 g.k1, grd_true, Yx (by omega) g.k0 (by have := g'.k1; rw [<- hk] at this; exact this), grd_true, Y31 (by rw [List.length_take]; omega) hN, Option.bind_some, Bool.true_and]
  unfold keyOf
  rw [<- hk]
 ·rw [decide_eq_false h]; rfl
def sameD (d : Db) (i k : Nat) : Bool := sameK d.1 (factAt d i) (factAt d k)
structure ValidDb (d : Db) : Prop where
 rels : validRels d.1 = true
 few : d.2.length <= 14
 fact : ∀ j, j < d.2.length -> fact1 d.1 (factAt d j) = true
 lt : ∀ i k, i < k -> k < d.2.length -> cmpFacts (factAt d i) (factAt d k) < 0
theorem Y7 {d : Db} (h : validDb d = true) : ValidDb d := by
 unfold validDb at h
 rw [Bool.and_eq_true, Bool.and_eq_true, decide_eq_true_eq, decide_eq_true_eq] at h
 obtain ⟨h1, h2, h3⟩ := h
 refine ⟨h1, h2, fun j hj => ?_, ?_⟩
 ·have := h3 j hj
  rw [Bool.and_eq_true] at this
  exact this.1
 ·have step : ∀ j, 0 < j -> j < d.2.length -> cmpFacts (factAt d (j - 1)) (factAt d j) < 0 := by
   intro j h0 hj
   have := h3 j hj
   rw [Bool.and_eq_true, Bool.or_eq_true, decide_eq_true_eq, decide_eq_true_eq] at this
   rcases this.2 with h | h
   ·omega
   ·exact h
  intro i k
  induction k with
  | zero => intro h; omega
  | succ k ih =>
   intro hik hk
   have hs := step (k + 1) (by omega) hk
   rw [Nat.add_sub_cancel] at hs
   by_cases h : i = k
   ·subst h; exact hs
   ·exact Y1o (ih (by omega) (by omega)) hs
abbrev Ctx := List Int × Int × Int
structure COk (c : Ctx) : Prop where
 len : c.1.length <= 1048576
 lo : 0 <= c.2.1
 hi : c.2.1 <= c.1.length
def Dr {α : Type} (c : Ctx) (o : Option (Ctx × α)) (Q : α -> Prop) : Prop := ∃ (p : Int × Int) (x : α), o = some ((c.1, p), x) /\ COk (c.1, p) /\ Q x
theorem Dr.bind {α β : Type} {c : Ctx} {o : Option (Ctx × α)} {Q : α -> Prop} {k : Ctx × α -> Option (Ctx × β)} {Q' : β -> Prop} (h : Dr c o Q) (hk : ∀ p x, COk (c.1, p) -> Q x -> Dr (c.1, p) (k ((c.1, p), x)) Q') : Dr c (o.bind k) Q' := by
 obtain ⟨p, x, h1, h2, h3⟩ := h
 rw [h1, Option.bind_some]
 exact hk p x h2 h3
theorem Dr.ret {α : Type} {c : Ctx} {p : Int × Int} {x : α} {Q : α -> Prop} (h : COk (c.1, p)) (hx : Q x) : Dr c (some ((c.1, p), x)) Q := ⟨p, x, rfl, h, hx⟩
theorem Dr.mono {α : Type} {c : Ctx} {o : Option (Ctx × α)} {Q Q' : α -> Prop} (h : Dr c o Q) (hq : ∀ x, Q x -> Q' x) : Dr c o Q' := by
 obtain ⟨p, x, h1, h2, h3⟩ := h
 exact ⟨p, x, h1, h2, hq x h3⟩
theorem Y32 (x : Int) : 0 <= bits .and .i64 x 255 /\ bits .and .i64 x 255 <= 255 := by
 have h : (BitVec.ofInt 64 x &&& BitVec.ofInt 64 255).toNat <= 255 := by
  rw [BitVec.toNat_and]
  exact Nat.le_trans Nat.and_le_right (by decide)
 show 0 <= w64 ((BitVec.ofInt 64 x &&& BitVec.ofInt 64 255).toNat : Int) /\ w64 ((BitVec.ofInt 64 x &&& BitVec.ofInt 64 255).toNat : Int) <= 255
 rw [Y6 (by omega) (by omega)]
 omega
theorem Y4i {code : List Int} (hc : code.length <= 1048576) (hN : 1048576 < N) : ∃ c, Z5j N code = some c /\ COk c := by
 unfold Z5j Z89
 have := loop (fun k (s : Int × Nat) => Z5y N k code s.1 (s.2 : Int)) (fun s => s.2 <= code.length) (fun s => code.length - s.2) (fun o => ∃ c, o = some c /\ COk c) (fun k s hs => by
  obtain ⟨h, j⟩ := s
  simp only at hs ⊢
  simp only [Z5y, Z76]
  by_cases hj : j < code.length
  ·by_cases h4 : (j : Int) < 4000
   ·right
    refine ⟨(bits .and .i64 (w64 ((w64 ((w64 (h * 131)) + (w64 (at_ 0 code j)))) + 7)) 1073741823, j + 1), hj, by omega, ?_⟩
    have h1 : (j : Int) < (code.length : Int) := by omega
    simp only [h1, decide_true, cond_true, h4, Y1 hj, grd_true, Y0 (j := j) (by omega)]
   ·left
    have h1 : (j : Int) < (code.length : Int) := by omega
    simp only [h1, decide_true, cond_true, h4, decide_false, cond_false]
    exact ⟨_, rfl, hc, Int.le_refl 0, by simp⟩
  ·left
   have h1 : ¬ (j : Int) < (code.length : Int) := by omega
   simp only [h1, decide_false, cond_false]
   exact ⟨_, rfl, hc, Int.le_refl 0, by simp⟩) N (w64 (10101 + (code.length : Int)), 0) (by simp; omega) (by simp)
 exact this
theorem Y11 {c : Ctx} (h : COk c) : Dr c (Z2e N c) (fun b => 0 <= b /\ b <= 255) := by
 obtain ⟨l, p, q⟩ := c
 obtain ⟨h1, h2, h3⟩ := h
 simp only at h1 h2 h3
 simp only [Z2e]
 by_cases hp : p < (l.length : Int)
 ·simp only [hp, decide_true, cond_true, Y9 h2 hp, grd_true]
  have : w64 (p + 1) = p + 1 := Y6 (by omega) (by omega)
  refine Dr.ret (c := (l, p, q)) ⟨h1, ?_, ?_⟩ (Y32 _)
  ·show (0 : Int) <= w64 (p + 1); omega
  ·show w64 (p + 1) <= l.length; omega
 ·simp only [hp, decide_false, cond_false]
  exact Dr.ret (c := (l, p, q)) ⟨h1, h2, h3⟩ (Y32 _)
theorem Y2o {x n : Int} (hx : 0 <= x) (hn : 0 < n) : 0 <= x.tmod n /\ x.tmod n < n := ⟨Int.tmod_nonneg n hx, Int.tmod_lt_of_pos x hn⟩
theorem Y5 {c : Ctx} {n : Int} (h : COk c) : Dr c (Z0 N c n) (fun b => 0 <= b /\ (0 < n -> b < n) /\ (n <= 0 -> b = 0)) := by
 unfold Z0
 by_cases h0 : n <= 0
 ·simp only [h0, decide_true, cond_true]
  exact ⟨c.2, 0, rfl, h, Int.le_refl 0, fun h1 => absurd h1 (by omega), fun _ => rfl⟩
 ·simp only [h0, decide_false, cond_false]
  by_cases h1 : n <= 256
  ·simp only [h1, decide_true, cond_true]
   refine (Y11 h).bind fun p x hp hx => ?_
   simp only [Y1i (show n ≠ 0 by omega)]
   have := Y2o hx.1 (show 0 < n by omega)
   exact Dr.ret (c := (c.1, p)) hp ⟨this.1, fun _ => this.2, fun h4 => h4.elim⟩
  ·simp only [h1, decide_false, cond_false]
   refine (Y11 h).bind fun p x hp hx => ?_
   refine (Y11 (c := (c.1, p)) hp).bind fun p2 x2 hp2 hx2 => ?_
   refine (Y11 (c := (c.1, p2)) hp2).bind fun p3 x3 hp3 hx3 => ?_
   refine (Y11 (c := (c.1, p3)) hp3).bind fun p4 x4 hp4 hx4 => ?_
   simp only [Y1i (show n ≠ 0 by omega)]
   have e : w64 ((w64 ((w64 ((w64 (x * 16777216)) + (w64 (x2 * 65536)))) + (w64 (x3 * 256)))) + x4) = x * 16777216 + x2 * 65536 + x3 * 256 + x4 := by
    rw [Y6 (x := x * 16777216) (by omega) (by omega), Y6 (x := x2 * 65536) (by omega) (by omega), Y6 (x := x3 * 256) (by omega) (by omega), Y6 (x := x * 16777216 + x2 * 65536) (by omega) (by omega), Y6 (x := x * 16777216 + x2 * 65536 + x3 * 256) (by omega) (by omega), Y6 (by omega) (by omega)]
   have := Y2o (x := x * 16777216 + x2 * 65536 + x3 * 256 + x4) (by omega) (show 0 < n by omega)
   rw [e]
   exact Dr.ret (c := (c.1, p4)) hp4 ⟨this.1, fun _ => this.2, fun h4 => h4.elim⟩
theorem Yp {c : Ctx} {l : List Int} (h : COk c) (hl : 0 < l.length) : Dr c (Z0f N c l) (fun x => x ∈ l) := by
 unfold Z0f
 refine (Y5 h).bind fun p x hp hx => ?_
 have hi := hx.2.1 (by omega)
 simp only [Y9 hx.1 hi, grd_true, Yw hx.1 hi]
 exact Dr.ret (c := (c.1, p)) hp (List.getElem_mem _)
theorem Y3y {c : Ctx} {l : List ByteArray} (h : COk c) (hl : 0 < l.length) : Dr c (Z4e N c l) (fun x => x ∈ l) := by
 unfold Z4e
 refine (Y5 h).bind fun p x hp hx => ?_
 have hi := hx.2.1 (by omega)
 simp only [Y9 hx.1 hi, grd_true, Yw hx.1 hi]
 exact Dr.ret (c := (c.1, p)) hp (List.getElem_mem _)
def rels4 (x y : Int) : List Rel := [(⟨#[114]⟩, 2, 1), (⟨#[115]⟩, 2, 1), (⟨#[116]⟩, 2, x), (⟨#[117]⟩, 3, y)]
def RelsD (l : List Rel) : Prop := l.length = 4 /\ (∀ r ∈ l, 2 <= r.2.1 /\ r.2.1 <= 3) /\ ∃ x y : Int, (x = 0 \/ x = 1 \/ x = 2) /\ (y = 1 \/ y = 2) /\ l = rels4 x y
theorem Y47 {c : Ctx} (h : COk c) : Dr c (Z4c N c) RelsD := by
 unfold Z4c
 refine (Yp h (by decide)).bind fun p x hp hx => ?_
 refine (Y5 (c := (c.1, p)) hp).bind fun p2 x2 hp2 hx2 => ?_
 refine Dr.ret (c := (c.1, p2)) hp2 ⟨rfl, fun r hr => ?_, x, w64 (1 + x2), ?_, ?_, rfl⟩
 ·simp only [List.mem_cons, List.not_mem_nil, or_false] at hr
  rcases hr with rfl | rfl | rfl | rfl <;> simp
 ·simp only [List.mem_cons, List.not_mem_nil, or_false] at hx
  omega
 ·have := hx2.1
  have := hx2.2.1 (by decide)
  rw [Y6 (by omega) (by omega)]
  omega
theorem Y4j {l : List Rel} (hl : RelsD l) {x : Int} (h0 : 0 <= x) (h1 : x < l.length) : inb x l = true /\ 2 <= (at_ ((⟨#[]⟩, (0, 0)) : Rel) l x).2.1 /\ (at_ ((⟨#[]⟩, (0, 0)) : Rel) l x).2.1 <= 3 := by
 refine ⟨Y9 h0 h1, ?_⟩
 rw [Yw h0 h1]
 exact hl.2.1 _ (List.getElem_mem _)
def FactD (f : Fact) : Prop := 2 <= f.2.length /\ f.2.length <= 3
theorem Y33 {c : Ctx} {l : List Rel} {v : Int} (h : COk c) (hl : RelsD l) (hN : 1048576 < N) : Dr c (Z4d N c l v) FactD := by
 unfold Z4d Z7w
 refine (Y5 h).bind fun p x hp hx => ?_
 have hi := hx.2.1 (by rw [hl.1]; decide)
 obtain ⟨g1, g2, g3⟩ := Y4j hl hx.1 hi
 have := loop (fun k (s : (Int × Int) × List Int) => Z59 N k c.1 s.1.1 s.1.2 l v 0 [] x s.2) (fun s => COk (c.1, s.1) /\ (s.2.length : Int) <= (at_ ((⟨#[]⟩, (0, 0)) : Rel) l x).2.1) (fun s => 4 - s.2.length) (fun o => Dr c o FactD) (fun k s hs => by
  obtain ⟨q, f2⟩ := s
  simp only at hs ⊢
  obtain ⟨hs1, hs2⟩ := hs
  simp only [Z59, Z6x, g1, grd_true]
  by_cases hc : (f2.length : Int) < (at_ ((⟨#[]⟩, (0, 0)) : Rel) l x).2.1
  ·right
   simp only [hc, decide_true, cond_true]
   obtain ⟨q2, y, e, hq, hy⟩ := Y5 (N := N) (c := (c.1, q.1, q.2)) (n := v) hs1
   refine ⟨(q2, f2 ++ [y]), ⟨hq, by simp; omega⟩, by simp; omega, ?_⟩
   rw [e, Option.bind_some]
   simp only
   rw [Y4 (by omega) (by simp; omega), grd_true]
  ·left
   simp only [hc, decide_false, cond_false]
   exact Dr.ret (c := c) (p := q) hs1 ⟨by simp only; omega, by simp only; omega⟩) N (p, []) (by simp; omega) ⟨hp, by simp; omega⟩
 exact this
structure DbD (m : Nat) (d : Db) : Prop where
 rels : d.1.length <= 1000
 facts : d.2.length <= m
 vals : ∀ f ∈ d.2, f.2.length <= 1000
theorem DbD.small {m : Nat} {d : Db} (h : DbD m d) (hm : m <= 1000) : SmallDb d := ⟨Nat.le_trans h.rels (by omega), Nat.le_trans h.facts (by omega), fun f hf => Nat.le_trans (h.vals f hf) (by omega)⟩
theorem Y48 {N m : Nat} {d : Db} (h : DbD m d) (hm : m <= 1000) (hN : 1048576 < N) : Z52 N d = some d := by
 have hr := h.rels
 have hf := h.facts
 unfold Z52 Z7x
 rw [Y4 (by omega) (by simp; omega), grd_true]
 have := loop (fun k (s : Nat) => Z5a N k d.1 d.2 [] [] d.1 (d.2.take s) (s : Int)) (fun s => s <= d.2.length) (fun s => d.2.length - s) (fun o => o = some d) (fun k j hs => by
  simp only [Z5a, Z6y]
  by_cases hj : j < d.2.length
  ·right
   refine ⟨j + 1, hj, by omega, ?_⟩
   have h1 : (j : Int) < (d.2.length : Int) := by omega
   have h3 := h.vals _ (List.getElem_mem hj)
   simp only [h1, decide_true, cond_true, Y1 hj, grd_true, Y3 hj]
   rw [Y4 (by omega) (by simp; omega), grd_true, Y4 (by omega) (by simp; omega), grd_true, Y0 (by omega), List.take_succ_eq_append_getElem hj]
  ·left
   have h1 : ¬ (j : Int) < (d.2.length : Int) := by omega
   simp only [h1, decide_false, cond_false]
   rw [List.take_of_length_le (by omega)]) N 0 (by omega) (by omega)
 simpa using this
theorem Y49 {N m : Nat} {d : Db} {f : Fact} (h : DbD m d) (hm : m <= 1000) (hf : f.2.length <= 1000) (hN : 1048576 < N) : ∃ i, Z3f N d f = some i := by
 have hl := h.facts
 unfold Z3f Z6z
 have := loop (fun k (s : Nat) => Z44 N k d.1 d.2 f.1 f.2 (s : Int)) (fun s => s <= d.2.length) (fun s => d.2.length - s) (fun o => ∃ i, o = some i) (fun k j hs => by
  simp only [Z44, Z60]
  by_cases hj : j < d.2.length
  ·have h1 : (j : Int) < (d.2.length : Int) := by omega
   have h3 := h.vals _ (List.getElem_mem hj)
   simp only [h1, decide_true, cond_true, Y1 hj, grd_true, Y3 hj]
   rw [Y1n (by omega) (by simp only; omega) hN, Option.bind_some]
   cases hc : (cmpFacts d.2[j] (f.1, f.2) == 0) with
   | true => left; exact ⟨_, rfl⟩
   | false =>
    right
    refine ⟨j + 1, hj, by omega, ?_⟩
    rw [cond_false, Y0 (by omega)]
  ·left
   have h1 : ¬ (j : Int) < (d.2.length : Int) := by omega
   simp only [h1, decide_false, cond_false]
   exact ⟨_, rfl⟩) N 0 (by omega) (by omega)
 exact this
theorem Y3z {N m : Nat} {d : Db} {f : Fact} (h : DbD m d) (hm : m <= 1000) (hf : f.2.length <= 1000) (hN : 1048576 < N) : ∃ b, Z2h N d f = some b := by
 unfold Z2h
 rw [Ym (h.small hm) hN, Option.bind_some]
 cases validDb d with
 | false => exact ⟨_, rfl⟩
 | true =>
  obtain ⟨i, hi⟩ := Y49 h hm hf hN
  rw [cond_true, hi, Option.bind_some]
  exact ⟨_, rfl⟩
theorem DbD.put {m : Nat} {d : Db} (h : DbD m d) {f : Fact} (hf : f.2.length <= 1000) (j : Nat) : DbD (m + 1) (d.1, d.2.take j ++ ([f] ++ d.2.drop j)) := by
 refine ⟨h.rels, ?_, ?_⟩
 ·have := h.facts
  simp only [List.length_append, List.length_take, List.length_drop, List.length_cons, List.length_nil]
  omega
 ·intro g hg
  simp only [List.mem_append, List.mem_cons, List.not_mem_nil, or_false] at hg
  rcases hg with hg | hg | hg
  ·exact h.vals g (List.mem_of_mem_take hg)
  ·rw [hg]; exact hf
  ·exact h.vals g (List.mem_of_mem_drop hg)
theorem Y21 {N m : Nat} {d : Db} {f : Fact} (h : DbD m d) (hm : m <= 900) (hf : f.2.length <= 1000) (hN : 1048576 < N) : ∃ d' b, Z2j N d f = some (d', b) /\ d'.1 = d.1 /\ DbD (m + 1) d' := by
 have hl := h.facts
 have hw : DbD (m + 1) d := ⟨h.rels, Nat.le_trans h.facts (by omega), h.vals⟩
 unfold Z2j Z6j
 rw [Y48 h (by omega) hN, Option.bind_some, Ym (h.small (by omega)) hN, Option.bind_some]
 cases validDb d with
 | false => exact ⟨d, false, rfl, rfl, hw⟩
 | true =>
  rw [Bool.not_true, cond_false, Yl (Nat.le_trans h.rels (by omega)) (by omega) hN, Option.bind_some]
  cases (validRels d.1 && fact1 d.1 f) with
  | false => exact ⟨d, false, rfl, rfl, hw⟩
  | true =>
   obtain ⟨b, hb⟩ := Y3z h (by omega) hf hN
   rw [Bool.not_true, cond_false, hb, Option.bind_some]
   cases b with
   | true => exact ⟨d, false, rfl, rfl, hw⟩
   | false =>
    rw [cond_false]
    cases ((d.2.length : Int) == 14) with
    | true => exact ⟨d, false, rfl, rfl, hw⟩
    | false =>
     rw [cond_false]
     have fin : ∀ j : Nat, j <= d.2.length -> (grd (appOk [] f.2 8) <| grd (subOk (j : Int) (d.2.length : Int) d.2.length) <| grd (appOk [(f.1, f.2)] (d.2.drop ((j : Int)).toNat) 32) <| grd (subOk 0 (j : Int) d.2.length) <| grd (appOk [] (d.2.take ((j : Int)).toNat) 32) <| grd (appOk (d.2.take ((j : Int)).toNat) ([(f.1, f.2)] ++ (d.2.drop ((j : Int)).toNat)) 32) <| some ((d.1, ((d.2.take ((j : Int)).toNat) ++ ([(f.1, f.2)] ++ (d.2.drop ((j : Int)).toNat)))), true)) = some ((d.1, d.2.take j ++ ([f] ++ d.2.drop j)), true) := by
      intro j hj
      have s1 : subOk (j : Int) (d.2.length : Int) d.2.length = true := by simp [subOk]; omega
      have s2 : subOk 0 (j : Int) d.2.length = true := by simp [subOk]; omega
      rw [s1, s2, Int.toNat_natCast, Y4 (by omega) (by simp; omega), Y4 (by omega) (by simp; omega), Y4 (by omega) (by simp; omega), Y4 (by omega) (by simp; omega)]
      rfl
     have := loop (fun k (s : Nat) => Z3p N k f.1 f.2 [] [] d.1 d.2 (s : Int)) (fun s => s <= d.2.length) (fun s => d.2.length - s) (fun o => ∃ d' b, o = some (d', b) /\ d'.1 = d.1 /\ DbD (m + 1) d') (fun k j hs => by
      simp only [Z3p, Z5k]
      by_cases hj : j < d.2.length
      ·have h1 : (j : Int) < (d.2.length : Int) := by omega
       have h3 := h.vals _ (List.getElem_mem hj)
       simp only [h1, decide_true, cond_true, Y1 hj, grd_true, Y3 hj]
       rw [Y1n (by omega) (by simp only; omega) hN, Option.bind_some]
       cases hc : decide (cmpFacts d.2[j] (f.1, f.2) < 0) with
       | true =>
        right
        refine ⟨j + 1, hj, by omega, ?_⟩
        rw [cond_true, Y0 (by omega)]
       | false =>
        left
        rw [cond_false, fin j hs]
        exact ⟨_, _, rfl, rfl, h.put hf j⟩
      ·left
       have h1 : ¬ (j : Int) < (d.2.length : Int) := by omega
       simp only [h1, decide_false, cond_false]
       rw [fin j hs]
       exact ⟨_, _, rfl, rfl, h.put hf j⟩) N 0 (by omega) (by omega)
     exact this
theorem FactD.le {f : Fact} (h : FactD f) : f.2.length <= 1000 := Nat.le_trans h.2 (by omega)
def DbDraw (d : Db) : Prop := RelsD d.1 /\ DbD 20 d
theorem Y40 {c : Ctx} {l : List Rel} {v : Int} (hl : RelsD l) (hN : 1048576 < N) {K : Nat} {p : Int × Int} {fs : List Fact} {n : Nat} (hp : COk (c.1, p)) (hd : DbD (20 - n) (l, fs)) (hn : n <= 20) (hK : n < K) :
  Dr c (Z5b N K c.1 p.1 p.2 [] [] l fs v (n : Int)) DbDraw := by
 have := loop (fun k (s : (Int × Int) × List Fact × Nat) => Z5b N k c.1 s.1.1 s.1.2 [] [] l s.2.1 v (s.2.2 : Int)) (fun s => COk (c.1, s.1) /\ s.2.2 <= 20 /\ DbD (20 - s.2.2) (l, s.2.1)) (fun s => s.2.2) (fun o => Dr c o DbDraw) (fun k s hs => by
  obtain ⟨q, fs, n⟩ := s
  simp only at hs ⊢
  obtain ⟨h1, h2, h3⟩ := hs
  simp only [Z5b, Z7p]
  by_cases h0 : (n : Int) > 0
  ·right
   obtain ⟨q2, f, e1, hq2, hf⟩ := Y33 (N := N) (c := (c.1, q.1, q.2)) (v := v) h1 hl hN
   obtain ⟨d', b, e2, h4, h5⟩ := Y21 h3 (by omega) hf.le hN
   obtain ⟨d1, d2⟩ := d'
   simp only at h4
   subst h4
   refine ⟨(q2, d2, n - 1), ⟨hq2, by simp only; omega, ⟨h5.rels, Nat.le_trans h5.facts (by simp only; omega), h5.vals⟩⟩, by simp only; omega, ?_⟩
   simp only [h0, decide_true, cond_true, e1, Option.bind_some, e2]
   rw [Y8 (by omega) (by omega)]
  ·left
   have e : n = 0 := by omega
   subst e
   simp only [h0, decide_false, cond_false]
   exact Dr.ret (c := c) (p := q) h1 ⟨hl, h3⟩) K (p, fs, n) (by simp only; omega) ⟨hp, hn, hd⟩
 exact this
theorem dbOk {c : Ctx} (h : COk c) (hN : 1048576 < N) : Dr c (Z67 N c) DbDraw := by
 unfold Z67 Z8m
 refine (Y47 h).bind fun p l hp hl => ?_
 refine (Yp (c := (c.1, p)) hp (by decide)).bind fun p2 v hp2 hv => ?_
 refine (Y5 (c := (c.1, p2)) hp2).bind fun p3 n hp3 hn => ?_
 have h1 := hn.1
 have h2 := hn.2.1 (by decide)
 have hd : DbD 0 ((l, []) : Db) := ⟨by simp only; rw [hl.1]; decide, by simp, by simp⟩
 obtain ⟨M, rfl⟩ : ∃ M, N = M + 1 := ⟨N - 1, by omega⟩
 simp only [Z77, Z7q]
 have e : w64 (2 + n) = ((n.toNat + 2 : Nat) : Int) := by rw [Y6 (by omega) (by omega)]; omega
 rw [e]
 have h0 : ((n.toNat + 2 : Nat) : Int) > 0 := by omega
 simp only [h0, decide_true, cond_true]
 refine (Y33 (c := (c.1, p3)) hp3 hl hN).bind fun p4 f hp4 hf => ?_
 obtain ⟨d', b, e2, h4, h5⟩ := Y21 hd (by omega) hf.le hN
 obtain ⟨d1, d2⟩ := d'
 simp only at h4
 subst h4
 simp only [e2, Option.bind_some]
 rw [Y8 (by omega) (by omega)]
 exact Y40 (c := (c.1, p4)) hl hN hp4 ⟨h5.rels, Nat.le_trans h5.facts (by omega), h5.vals⟩ (by omega) (by omega)
def toI (l : List Nat) : List Int := l.map fun (n : Nat) => (n : Int)
theorem Yc {d : Db} {k : Nat} (hk : k < d.2.length) : at_ (0, []) d.2 (k : Int) = factAt d k := by unfold factAt; rw [Y3 hk, Y2 hk]
def blocksOf (d : Db) : List (List Int) := if validDb d then (B (sameD d) d.2.length).map toI else []
def sizes (d : Db) : List Nat := (blocksOf d).map List.length
def one (p : Int -> Bool) (x : Int) : Int := if p x then 1 else 0
theorem Yh {c : Ctx} {n : Int} (h : COk c) : Dr c (Z0v N c n) (fun _ => True) := by
 unfold Z0v
 refine (Y5 h).bind fun p x hp hx => ?_
 exact Dr.ret (c := (c.1, p)) hp trivial
theorem Y3k {N m : Nat} {c : Ctx} {d : Db} (h : COk c) (hd : DbD m d) (hm : m <= 900) (hN : 1048576 < N) : Dr c (Z41 N c d) (fun l => l.length <= 900) := by
 have hf := hd.facts
 unfold Z41 Z7h
 have := loop (fun k (s : (Int × Int) × List Int × Nat) => Z4l N k c.1 s.1.1 s.1.2 d.1 d.2 s.2.1 (s.2.2 : Int)) (fun s => COk (c.1, s.1) /\ s.2.1.length <= s.2.2 /\ s.2.2 <= d.2.length) (fun s => d.2.length - s.2.2) (fun o => Dr c o (fun l => l.length <= 900)) (fun k s hs => by
  obtain ⟨q, l, i⟩ := s
  obtain ⟨h1, h2, h3⟩ := hs
  simp only at h1 h2 h3 ⊢
  simp only [Z4l, Z6f]
  by_cases hc : (i : Int) < (d.2.length : Int)
  ·right
   obtain ⟨q2, y, e, hq, hy⟩ := Yh (N := N) (c := (c.1, q.1, q.2)) (n := 2) h1
   simp only [hc, decide_true, cond_true, e, Option.bind_some]
   cases y with
   | true =>
    refine ⟨(q2, l ++ [(i : Int)], i + 1), ⟨hq, by simp; omega, by simp only; omega⟩, by simp only; omega, ?_⟩
    rw [cond_true, Y4 (by omega) (by simp; omega), grd_true, Y0 (by omega)]
   | false =>
    refine ⟨(q2, l, i + 1), ⟨hq, by simp only; omega, by simp only; omega⟩, by simp only; omega, ?_⟩
    rw [cond_false, Y0 (by omega)]
  ·left
   simp only [hc, decide_false, cond_false]
   by_cases h0 : (l.length : Int) > 0
   ·simp only [h0, decide_true, cond_true]
    refine (Yh (c := (c.1, q)) h1).bind fun p2 b hp2 _ => ?_
    cases b with
    | true =>
     rw [cond_true]
     refine (Yp (c := (c.1, p2)) hp2 (by simp)).bind fun p3 y hp3 _ => ?_
     simp only [Y9 (i := 0) (xs := l) (by omega) (by omega), grd_true, letv_eq]
     exact Dr.ret (c := (c.1, p3)) hp3 (by simp; omega)
    | false =>
     rw [cond_false]
     exact Dr.ret (c := (c.1, p2)) hp2 (by omega)
   ·simp only [h0, decide_false, cond_false]
    exact Dr.ret (c := c) (p := q) h1 (by omega)) N (c.2, [], 0) (by simp only; omega) ⟨h, by simp, by simp⟩
 exact this
theorem Y41 {α β : Type} {a : List α} (piece : α -> List β) {f : Nat -> List β -> Int -> Option (List β)} (hp : ∀ x ∈ a, (piece x).length <= 1) (hend : ∀ k out, f (k + 1) out (a.length : Int) = some out)
  (hstep : ∀ k out j (h : j < a.length), out.length <= j -> f (k + 1) out (j : Int) = f k (out ++ piece a[j]) ((j + 1 : Nat) : Int)) {k : Nat} (hk : a.length < k) : f k [] 0 = some (a.flatMap piece) := by
 have := loop (fun k (q : List β × Nat) => f k q.1 (q.2 : Int)) (fun q => q.2 <= a.length /\ q.1.length <= q.2 /\ q.1 ++ (a.drop q.2).flatMap piece = a.flatMap piece) (fun q => a.length - q.2) (fun o => o = some (a.flatMap piece)) (fun k q hs => by
  obtain ⟨out, j⟩ := q
  obtain ⟨h1, h2, h3⟩ := hs
  simp only at h1 h2 h3 ⊢
  by_cases hj : j < a.length
  ·right
   refine ⟨(out ++ piece a[j], j + 1), ⟨hj, ?_, ?_⟩, by simp only; omega, hstep k out j hj h2⟩
   ·have := hp a[j] (List.getElem_mem hj)
    simp only [List.length_append]; omega
   ·rw [<- h3, List.drop_eq_getElem_cons hj, List.flatMap_cons, List.append_assoc]
  ·left
   have : j = a.length := by omega
   subst this
   rw [hend, <- h3, List.drop_length]; simp) k ([], 0) (by simpa using hk) ⟨by simp, by simp, by simp⟩
 exact this
theorem Y22 {α : Type} {s x : List α} {b : Nat} (h : (s.length + x.length) * b <= 140737488355328) : appOk s x b = true := decide_eq_true h
theorem Yt {α β : Type} {piece : α -> List β} {n : Nat} : ∀ {a : List α}, (∀ x ∈ a, (piece x).length <= n) -> (a.flatMap piece).length <= a.length * n
 | [], _ => by simp
 | x :: a, h => by
  have h1 := h x (by simp)
  have h2 := Yt (a := a) fun y hy => h y (by simp [hy])
  rw [List.flatMap_cons, List.length_append, List.length_cons, Nat.add_mul]; omega
theorem Y1l : ∀ {a b : List Int}, a.Pairwise (· < ·) -> b.Pairwise (· < ·) -> (∀ x, x ∈ a ↔ x ∈ b) -> a = b
 | [], [], _, _, _ => rfl
 | [], y :: b, _, _, h => by have := (h y).2 (by simp); simp at this
 | x :: a, [], _, _, h => by have := (h x).1 (by simp); simp at this
 | x :: a, y :: b, ha, hb, h => by
  rw [List.pairwise_cons] at ha hb
  have e : x = y := by
   have h1 := (h x).1 (by simp)
   have h2 := (h y).2 (by simp)
   rcases List.mem_cons.1 h1 with h1 | h1
   ·exact h1
   ·rcases List.mem_cons.1 h2 with h2 | h2
    ·exact h2.symm
    ·have := ha.1 y h2
     have := hb.1 x h1
     omega
  subst e
  rw [Y1l ha.2 hb.2 fun z => ?_]
  have hz := h z
  simp only [List.mem_cons] at hz
  constructor
  ·intro hm
   have := ha.1 z hm
   rcases hz.1 (.inr hm) with h3 | h3
   ·omega
   ·exact h3
  ·intro hm
   have := hb.1 z hm
   rcases hz.2 (.inr hm) with h3 | h3
   ·omega
   ·exact h3
def validSet (n : Nat) (l : List Int) : Bool := decide (∀ j, j < l.length -> (decide (0 <= l.getD j 0 /\ l.getD j 0 <= (n : Int) - 1) && (decide (j = 0) || decide (l.getD (j - 1) 0 < l.getD j 0))) = true)
theorem Y2p {d : Db} {l : List Int} (h : SmallDb d) (hl : l.length <= 1048576) (hN : 1048576 < N) : Z4b N d l = some (validSet d.2.length l) := by
 have hf := h.facts
 unfold Z4b Z8i
 rw [Ya (n := l.length) (fun j => decide (0 <= l.getD j 0 /\ l.getD j 0 <= (d.2.length : Int) - 1) && (decide (j = 0) || decide (l.getD (j - 1) 0 < l.getD j 0))) (some false) (some true) (fun k i => Z4x N k l d.1 d.2 i)
  (fun k => by simp [Z4x, Z65]) (fun k j hj => ?_) (by omega)]
 ·unfold validSet
  split
  ·rename_i h4; rw [decide_eq_true h4]
  ·rename_i h4; rw [decide_eq_false h4]
 ·have h1 : (j : Int) < (l.length : Int) := by omega
  simp only [Z4x, Z65, h1, decide_true, cond_true, Y1 hj, grd_true, Y3 hj, l1In, Option.bind_some, Y2 hj, Y0 (j := j) (by omega), Y6 (show -9223372036854775808 <= (d.2.length : Int) - 1 by omega) (by omega)]
  cases decide (0 <= l[j] /\ l[j] <= (d.2.length : Int) - 1) with
  | false => rfl
  | true =>
   simp only [Bool.not_true, cond_false, Bool.true_and]
   by_cases h0 : j = 0
   ·subst h0; simp
   ·have h3 : (j : Int) > 0 := by omega
    have h4 : j - 1 < l.length := by omega
    simp only [h3, decide_true, cond_true, Y8 (show 0 < j by omega) (by omega), Y1 h4, grd_true, Y3 h4, h0, decide_false, Bool.false_or, Y2 h4]
    by_cases h5 : l[j - 1] < l[j]
    ·have : ¬ l[j] <= l[j - 1] := by omega
     simp [h5, this]
    ·have : l[j] <= l[j - 1] := by omega
     simp [h5, this]
theorem Y2q {n : Nat} {l : List Int} (hn : n <= 1048576) (hl : l.length <= 1048576) (hN : 1048576 < N) : Z1w N l (n : Int) = some (validSet n l) := by
 unfold Z1w Z6o
 rw [Ya (n := l.length) (fun j => decide (0 <= l.getD j 0 /\ l.getD j 0 <= (n : Int) - 1) && (decide (j = 0) || decide (l.getD (j - 1) 0 < l.getD j 0))) (some false) (some true) (fun k i => Z2x N k l (n : Int) l (l.length : Int) i)
  (fun k => by simp [Z2x, Z4a]) (fun k j hj => ?_) (by omega)]
 ·unfold validSet
  split
  ·rename_i h4; rw [decide_eq_true h4]
  ·rename_i h4; rw [decide_eq_false h4]
 ·have h1 : (j : Int) < (l.length : Int) := by omega
  simp only [Z2x, Z4a, h1, decide_true, cond_true, Y1 hj, grd_true, Y3 hj, Yk, Option.bind_some, Y2 hj, Y0 (j := j) (by omega), Y6 (show -9223372036854775808 <= (n : Int) - 1 by omega) (by omega)]
  cases decide (0 <= l[j] /\ l[j] <= (n : Int) - 1) with
  | false => rfl
  | true =>
   simp only [Bool.not_true, cond_false, Bool.true_and]
   by_cases h0 : j = 0
   ·subst h0; simp
   ·have h3 : (j : Int) > 0 := by omega
    have h4 : j - 1 < l.length := by omega
    simp only [h3, decide_true, cond_true, Y8 (show 0 < j by omega) (by omega), Y1 h4, grd_true, Y3 h4, h0, decide_false, Bool.false_or, Y2 h4]
    by_cases h5 : l[j - 1] < l[j]
    ·have : ¬ l[j - 1] >= l[j] := by omega
     simp [h5, this]
    ·have : l[j - 1] >= l[j] := by omega
     simp [h5, this]
theorem Yu {n : Nat} {l : List Int} (h : validSet n l = true) {j : Nat} (hj : j < l.length) : 0 <= l[j] /\ l[j] < (n : Int) := by
 have := of_decide_eq_true h j hj
 rw [Bool.and_eq_true, decide_eq_true_eq, Y2 hj] at this
 omega
theorem Y17 {r : Rel} (h : validRel r = true) : 1 <= r.2.1 /\ r.2.1 <= 3 := by
 unfold validRel Z7 at h
 by_cases h1 : r.1.size = 1
 ·have hb : ∃ b, byteAt r.1 0 = some b := by
   unfold byteAt
   have : (0 : Int).toNat < r.1.size := by omega
   exact ⟨r.1[(0 : Int).toNat], by rw [if_pos (by omega), getElem?_pos]⟩
  obtain ⟨b, hb⟩ := hb
  rw [hb] at h
  simp only [Option.bind_some, l1In] at h
  by_cases h2 : 1 <= r.2.1 /\ r.2.1 <= 3
  ·exact h2
  ·rw [decide_eq_false h2] at h
   exfalso
   revert h
   cases ((r.1.size : Int) == 1) <;> cases decide ((b.toNat : Int) >= 97) <;> cases decide ((b.toNat : Int) <= 122) <;> simp
 ·have h0 : ((r.1.size : Int) == 1) = false := by rw [beqI]; simp; omega
  rw [h0] at h
  simp at h
abbrev Atm := Int × List Int
abbrev Qry := Int × List Atm × List Int
theorem Yg {σ R : Type} (f : Nat -> σ -> Option R) (I : σ -> Prop) (μ : σ -> Nat) (Q : Option R -> Prop) (hstep : ∀ k s, I s -> (∀ s', I s' -> μ s' < μ s -> Q (f k s')) -> Q (f (k + 1) s)) : ∀ (k : Nat) (s : σ), μ s < k -> I s -> Q (f k s)
 | 0, s, hk, hs => by omega
 | k + 1, s, hk, hs => hstep k s hs fun s' h1 h2 => Yg f I μ Q hstep k s' (by omega) h1
structure QD (m : Nat) (q : Qry) : Prop where
 vars : q.1 <= 101
 atoms : 1 <= q.2.1.length /\ q.2.1.length <= 100
 terms : ∀ a ∈ q.2.1, 1 <= a.2.length /\ a.2.length <= 100
 free : q.2.2.length <= m
theorem QD.mono {m n : Nat} {q : Qry} (h : QD m q) (hn : m <= n) : QD n q := ⟨h.vars, h.atoms, h.terms, Nat.le_trans h.free hn⟩
theorem Y4k {N m : Nat} {q : Qry} (h : QD m q) (hm : m <= 1000) (hN : 1048576 < N) : Z4j N q = some q := by
 have ha := h.atoms
 have hf := h.free
 unfold Z4j Z7r
 rw [Y4 (by omega) (by simp; omega), grd_true]
 have := loop (fun k (s : Nat) => Z4y N k q.1 q.2.1 q.2.2 0 [] [] q.1 (q.2.1.take s) q.2.2 (s : Int)) (fun s => s <= q.2.1.length) (fun s => q.2.1.length - s) (fun o => o = some q) (fun k j hs => by
  simp only [Z4y, Z6k]
  by_cases hj : j < q.2.1.length
  ·right
   refine ⟨j + 1, hj, by omega, ?_⟩
   have h1 : (j : Int) < (q.2.1.length : Int) := by omega
   have h3 := h.terms _ (List.getElem_mem hj)
   simp only [h1, decide_true, cond_true, Y1 hj, grd_true, Y3 hj]
   rw [Y4 (by omega) (by simp; omega), grd_true, Y4 (by omega) (by simp; omega), grd_true, Y0 (by omega), List.take_succ_eq_append_getElem hj]
  ·left
   have h1 : ¬ (j : Int) < (q.2.1.length : Int) := by omega
   simp only [h1, decide_false, cond_false]
   rw [List.take_of_length_le (by omega)]) N 0 (by omega) (by omega)
 simpa using this
def Shp (L : List Nat) (x : List Atm) : Prop := x.map (fun a => a.2.length) = L
theorem Shp.len {L : List Nat} {x : List Atm} (h : Shp L x) : x.length = L.length := by rw [<- h, List.length_map]
theorem Shp.at {L : List Nat} {x : List Atm} (h : Shp L x) {i : Nat} (hi : i < x.length) : (x[i]).2.length = L[i]'(by rw [<- h.len]; exact hi) := by
 subst h
 simp
theorem Shp.set {L : List Nat} {x : List Atm} (h : Shp L x) {i : Nat} (hi : i < x.length) (a : Int) (k : Nat) (v : Int) : Shp L (x.set i (a, (x[i]).2.set k v)) := by
 unfold Shp at h ⊢
 rw [List.map_set]
 subst h
 simp only [List.length_set]
 apply List.ext_getElem
 ·simp
 ·intro n h1 h2
  rw [List.getElem_set]
  split
  ·rename_i e; subst e; simp
  ·rfl
theorem Y4a {N K : Nat} {R : Int -> List Atm -> List Int -> Int -> List Atm -> List Int -> List Int -> Int -> Int -> Option Qry} {Q : Option Qry -> Prop} {a b : Int} {e : List Atm} {f g : List Int} {t : Int} {L : List Nat} {x : List Atm} {name : List Int} {i k m : Nat} (hx : Shp L x) (hi : i < x.length) (hk : k < (x[i]).2.length) (hn : name.length <= m) (hm : m <= 1000) (hk2 : k <= 1000) (hK : name.length < K)
  (hQ : ∀ x' name', Shp L x' -> name'.length <= m + 1 -> Q (R a e f b x' g name' (i : Int) ((k + 1 : Nat) : Int))) : Q (Z3g R N K a e f b x g name (i : Int) (k : Int) t (-1) 0) := by
 have := loop (fun K (s : Int × Nat) => Z3g R N K a e f b x g name (i : Int) (k : Int) t s.1 (s.2 : Int)) (fun s => s.2 <= name.length) (fun s => name.length - s.2) Q (fun K s hs => by
  obtain ⟨at_', j⟩ := s
  simp only at hs ⊢
  simp only [Z3g, Z68]
  by_cases hj : j < name.length
  ·right
   have h1 : (j : Int) < (name.length : Int) := by omega
   simp only [h1, decide_true, cond_true, Y1 hj, grd_true, Y3 hj]
   cases (name[j] == t) with
   | true => exact ⟨((j : Int), j + 1), hj, by simp only; omega, by rw [cond_true, Y0 (by omega)]⟩
   | false => exact ⟨(at_', j + 1), hj, by simp only; omega, by rw [cond_false, Y0 (by omega)]⟩
  ·left
   have h1 : ¬ (j : Int) < (name.length : Int) := by omega
   have hap : appOk name [t] 8 = true := Y4 (by omega) (by simp; omega)
   simp only [h1, decide_false, cond_false, Y1 hi, grd_true, Y3 hi, Y1 hk, Int.toNat_natCast, letv_eq, hap, Y0 (j := k) (by omega)]
   cases decide (at_' < 0) with
   | true => rw [cond_true]; exact hQ _ _ (hx.set hi _ _ _) (by simp; omega)
   | false => rw [cond_false]; exact hQ _ _ (hx.set hi _ _ _) (by omega)) K (-1, 0) (by simp only; omega) (by simp)
 exact this
theorem Y4b {N K : Nat} {R0 : Int -> List Atm -> List Int -> Int -> List Atm -> List Int -> List Int -> Int -> Option Qry} {Q : Option Qry -> Prop} {a b : Int} {e : List Atm} {f g : List Int} {L : List Nat} {x : List Atm} {name : List Int} {i m : Nat} (hL : ∀ n ∈ L, n <= 3) (hx : Shp L x) (hi : i < x.length) (hn : name.length <= m) (hm : m <= 800) (hK : 4 < K) (hN : 1048576 < N)
  (hQ : ∀ x' name', Shp L x' -> name'.length <= m + 3 -> Q (R0 a e f b x' g name' ((i + 1 : Nat) : Int))) (hi2 : i <= 1000) : Q (Z2t R0 N K a e f b x g name (i : Int) 0) := by
 have := Yg (fun K (s : List Atm × List Int × Nat) => Z2t R0 N K a e f b s.1 g s.2.1 (i : Int) (s.2.2 : Int)) (fun s => Shp L s.1 /\ s.2.2 <= L[i]'(by rw [<- hx.len]; exact hi) /\ s.2.1.length <= m + s.2.2) (fun s => L[i]'(by rw [<- hx.len]; exact hi) - s.2.2) Q (fun K s hs ih => by
  obtain ⟨x, name, k⟩ := s
  obtain ⟨h1, h2, h3⟩ := hs
  simp only at h1 h2 h3 ⊢
  have hL1 := hL _ (List.getElem_mem (show i < L.length by rw [<- hx.len]; exact hi))
  have hi' : i < x.length := by rw [h1.len, <- hx.len]; exact hi
  have hlen := h1.at hi'
  simp only [Z2t, Z69]
  by_cases hk : k < (x[i]).2.length
  ·have c1 : (k : Int) < ((x[i]).2.length : Int) := by omega
   simp only [Y1 hi', grd_true, Y3 hi', c1, decide_true, cond_true, Y1 hk, Y3 hk]
   cases decide ((x[i]).2[k] < 0) with
   | true =>
    rw [cond_true, Y0 (by omega)]
    exact ih (x, name, k + 1) ⟨h1, by simp only; omega, by simp only; omega⟩ (by simp only; omega)
   | false =>
    rw [cond_false]
    exact Y4a h1 hi' hk h3 (by omega) (by omega) (by omega) (fun x' name' s1 s2 => ih (x', name', k + 1) ⟨s1, by simp only; omega, by simp only; omega⟩ (by simp only; omega))
  ·have c1 : ¬ (k : Int) < ((x[i]).2.length : Int) := by omega
   simp only [Y1 hi', grd_true, Y3 hi', c1, decide_false, cond_false]
   rw [Y0 (by omega)]
   exact hQ x name h1 (by omega)) K (x, name, 0) (by have := hL _ (List.getElem_mem (show i < L.length by rw [<- hx.len]; exact hi)); simp only; omega) ⟨hx, by simp, by simpa using hn⟩
 exact this
theorem Y42 {q : Qry} (h : QD 0 q) (ha : q.2.1.length <= 3) (ht : ∀ a ∈ q.2.1, a.2.length <= 3) (hN : 1048576 < N) : ∃ q', Z3z N q = some q' /\ QD 0 q' := by
 have hat := h.atoms
 unfold Z3z Z7a
 rw [Y4k h (by omega) hN, Option.bind_some]
 have hL : ∀ n ∈ q.2.1.map (fun a => a.2.length), n <= 3 := by
  intro n hn
  obtain ⟨a, h1, rfl⟩ := List.mem_map.1 hn
  exact ht a h1
 have := Yg (fun K (s : List Atm × List Int × Nat) => Z3h N K 0 [] [] q.1 s.1 q.2.2 s.2.1 (s.2.2 : Int)) (fun s => Shp (q.2.1.map (fun a => a.2.length)) s.1 /\ s.2.2 <= q.2.1.length /\ s.2.1.length <= 3 * s.2.2) (fun s => q.2.1.length - s.2.2) (fun o => ∃ q', o = some q' /\ QD 0 q') (fun K s hs ih => by
  obtain ⟨x, name, i⟩ := s
  obtain ⟨h1, h2, h3⟩ := hs
  simp only at h1 h2 h3 ⊢
  have hlen := h1.len
  rw [List.length_map] at hlen
  simp only [Z3h, Z6a]
  by_cases hi : i < x.length
  ·have c1 : (i : Int) < (x.length : Int) := by omega
   simp only [c1, decide_true, cond_true]
   exact Y4b (Q := fun o => ∃ q', o = some q' /\ QD 0 q') hL h1 hi h3 (by omega) (by omega) hN (fun x' name' s1 s2 => ih (x', name', i + 1) ⟨s1, by simp only; omega, by simp only; omega⟩ (by simp only; omega)) (by omega)
  ·have c1 : ¬ (i : Int) < (x.length : Int) := by omega
   simp only [c1, decide_false, cond_false]
   refine ⟨_, rfl, ⟨by simp only; omega, by simp only; omega, ?_, h.free⟩⟩
   intro a hx
   have : a.2.length ∈ q.2.1.map (fun a => a.2.length) := by rw [<- h1]; exact List.mem_map_of_mem (f := fun a : Atm => a.2.length) hx
   obtain ⟨a0, k1, k2⟩ := List.mem_map.1 this
   rw [<- k2]
   exact h.terms a0 k1) N (q.2.1, [], 0) (by simp only; omega) ⟨rfl, by simp, by simp⟩
 exact this
def AtsD (n : Nat) (as : List Atm) : Prop := as.length = n /\ ∀ a ∈ as, 1 <= a.2.length /\ a.2.length <= 3
theorem Y4c {N K n : Nat} {R0 : List Int -> Int -> Int -> Int -> List Atm -> List Int -> Int -> List Atm -> List Int -> Int -> Int -> Int -> Int -> Option (Ctx × Qry)} {Q : Option (Ctx × Qry) -> Prop} {c : Ctx} {as : List Atm} {vars from_ r : Int} {i m : Nat} (hc : COk c) (has : AtsD i as) (hi : i <= 10) (hm : 1 <= m /\ m <= 3) (hK : 4 < K)
  (hQ : ∀ p as', COk (c.1, p) -> AtsD (i + 1) as' -> Q (R0 c.1 p.1 p.2 0 [] [] 0 as' [] (n : Int) vars from_ ((i + 1 : Nat) : Int))) : Q (Z3i R0 N K c.1 c.2.1 c.2.2 0 [] [] 0 as [] (n : Int) vars from_ (i : Int) r [] (m : Int)) := by
 have := Yg (fun K (s : (Int × Int) × List Int × Nat) => Z3i R0 N K c.1 s.1.1 s.1.2 0 [] [] 0 as [] (n : Int) vars from_ (i : Int) r s.2.1 (s.2.2 : Int)) (fun s => COk (c.1, s.1) /\ s.2.1.length + s.2.2 = m) (fun s => s.2.2) Q (fun K s hs ih => by
  obtain ⟨p, a2, k⟩ := s
  obtain ⟨h1, h2⟩ := hs
  simp only at h1 h2 ⊢
  simp only [Z3i, Z6b]
  by_cases hk : (k : Int) > 0
  ·obtain ⟨p2, b, e, hp2, _⟩ := Yh (N := N) (c := (c.1, p.1, p.2)) (n := 12) h1
   simp only [hk, decide_true, cond_true, e, Option.bind_some]
   cases b with
   | true =>
    obtain ⟨p3, y, e3, hp3, _⟩ := Y5 (N := N) (c := (c.1, p2)) (n := 2) hp2
    simp only at e3
    simp only [cond_true, e3, Option.bind_some]
    rw [Y4 (by omega) (by simp; omega), grd_true, Y8 (by omega) (by omega)]
    exact ih (p3, a2 ++ [w64 (-1 - y)], k - 1) ⟨hp3, by simp; omega⟩ (by simp only; omega)
   | false =>
    obtain ⟨p3, y, e3, hp3, _⟩ := Y5 (N := N) (c := (c.1, p2)) (n := vars) hp2
    simp only at e3
    simp only [cond_false, e3, Option.bind_some]
    rw [Y4 (by omega) (by simp; omega), grd_true, Y8 (by omega) (by omega)]
    exact ih (p3, a2 ++ [y], k - 1) ⟨hp3, by simp; omega⟩ (by simp only; omega)
  ·simp only [hk, decide_false, cond_false]
   have ha := has.1
   rw [Y4 (by omega) (by simp; omega), grd_true, Y0 (by omega)]
   refine hQ p _ h1 ⟨by simp [ha], fun a hx => ?_⟩
   simp only [List.mem_append, List.mem_cons, List.not_mem_nil, or_false] at hx
   rcases hx with hx | rfl
   ·exact has.2 a hx
   ·simp only; omega) K (c.2, [], m) (by simp only; omega) ⟨hc, by simp⟩
 exact this
theorem Y43 {c : Ctx} (h : COk c) (hN : 1048576 < N) : Dr c (Z40 N c) (QD 0) := by
 unfold Z40 Z7b
 refine (Y5 h).bind fun p n hp hn => ?_
 refine (Y5 (c := (c.1, p)) hp).bind fun p2 v hp2 hv => ?_
 refine (Y5 (c := (c.1, p2)) hp2).bind fun p3 fr hp3 hf => ?_
 have n1 := hn.1
 have n2 := hn.2.1 (by decide)
 have f1 := hf.1
 have f2 := hf.2.1 (by decide)
 obtain ⟨n, rfl⟩ : ∃ k : Nat, n = k := ⟨n.toNat, by omega⟩
 obtain ⟨fr, rfl⟩ : ∃ k : Nat, fr = k := ⟨fr.toNat, by omega⟩
 rw [show w64 (1 + (n : Int)) = ((n + 1 : Nat) : Int) by rw [Y6 (by omega) (by omega)]; omega]
 have := Yg (fun K (s : (Int × Int) × List Atm × Nat) => Z3j N K c.1 s.1.1 s.1.2 0 [] [] 0 s.2.1 [] ((n + 1 : Nat) : Int) (w64 (1 + v)) (fr : Int) (s.2.2 : Int)) (fun s => COk (c.1, s.1) /\ AtsD s.2.2 s.2.1 /\ s.2.2 <= n + 1) (fun s => n + 1 - s.2.2) (fun o => Dr c o (QD 0)) (fun K s hs ih => by
  obtain ⟨p, as, i⟩ := s
  obtain ⟨h1, h2, h3⟩ := hs
  simp only at h1 h2 h3 ⊢
  simp only [Z3j, Z6c]
  by_cases hi : (i : Int) < ((n + 1 : Nat) : Int)
  ·have e1 : w64 ((fr : Int) + (i : Int)) = ((fr + i : Nat) : Int) := by rw [Y6 (by omega) (by omega)]; omega
   have e2 : ((fr + i : Nat) : Int).tmod 4 = (((fr + i) % 4 : Nat) : Int) := rfl
   have e3 : (((fr + i) % 4 : Nat) : Int).tdiv 3 = (((fr + i) % 4 / 3 : Nat) : Int) := rfl
   have e4 : w64 (2 + w64 (((fr + i) % 4 / 3 : Nat) : Int)) = ((2 + (fr + i) % 4 / 3 : Nat) : Int) := by
    rw [Y6 (x := (((fr + i) % 4 / 3 : Nat) : Int)) (by omega) (by omega), Y6 (by omega) (by omega)]; omega
   simp only [hi, decide_true, cond_true, Y1i (show (4 : Int) ≠ 0 by decide), Y1i (show (3 : Int) ≠ 0 by decide), e1, e2, e3, e4]
   exact Y4c (Q := fun o => Dr c o (QD 0)) (c := (c.1, p)) (m := 2 + (fr + i) % 4 / 3) h1 h2 (by omega) (by omega) (by omega) (fun p' as' k1 k2 => ih (p', as', i + 1) ⟨k1, k2, by simp only; omega⟩ (by simp only; omega))
  ·have e : i = n + 1 := by omega
   subst e
   have q1 : QD 0 ((0, as, []) : Qry) := ⟨by simp, by simp only; have := h2.1; omega, fun a hx => by have := h2.2 a hx; omega, by simp⟩
   obtain ⟨q', e1, e2⟩ := Y42 (N := N) q1 (by simp only; have := h2.1; omega) (fun a hx => (h2.2 a hx).2) hN
   simp only [hi, decide_false, cond_false, e1, Option.bind_some]
   exact Dr.ret (c := c) (p := p) h1 e2) N (p3, [], 0) (by simp only; omega) ⟨hp3, ⟨rfl, by simp⟩, by simp⟩
 exact this
def qdB (q : Qry) : Bool := decide (q.1 <= 101) && (decide (1 <= q.2.1.length /\ q.2.1.length <= 100) && ((q.2.1.all fun a => decide (1 <= a.2.length /\ a.2.length <= 100)) && decide (q.2.2.length <= 0)))
theorem Y23 {q : Qry} (h : qdB q = true) : QD 0 q := by
 simp only [qdB, Bool.and_eq_true, decide_eq_true_eq, List.all_eq_true] at h
 exact ⟨h.1, h.2.1, h.2.2.1, h.2.2.2⟩
def okP (o : Option (Qry × Bool)) : Bool := match o with
 | some (q, b) => !b || qdB q
 | none => false
def okT (o : Option (Qry × Bool)) : Bool := match o with
 | some (q, b) => b && qdB q
 | none => false
theorem Y3l {o : Option (Qry × Bool)} (h : okP o = true) : ∃ q b, o = some (q, b) /\ (b = true -> QD 0 q) := by
 unfold okP at h
 split at h
 ·rename_i q b
  refine ⟨q, b, rfl, fun hb => Y23 ?_⟩
  subst hb
  simpa using h
 ·simp at h
theorem Y3m {o : Option (Qry × Bool)} (h : okT o = true) : ∃ q, o = some (q, true) /\ QD 0 q := by
 unfold okT at h
 split at h
 ·rename_i q b
  simp only [Bool.and_eq_true] at h
  obtain ⟨rfl, h2⟩ := h
  exact ⟨q, rfl, Y23 h2⟩
 ·simp at h
def knownS : List ByteArray := [⟨#[63, 114, 120, 124, 121, 32, 115, 121, 124, 122]⟩, ⟨#[63, 114, 120, 124, 121, 32, 115, 121, 124, 120]⟩, ⟨#[63, 114, 120, 124, 121, 32, 115, 122, 124, 121]⟩, ⟨#[63, 114, 120, 124, 121, 32, 115, 120, 124, 122]⟩, ⟨#[63, 114, 120, 124, 49]⟩, ⟨#[63, 114, 120, 124, 120]⟩, ⟨#[63, 114, 120, 124, 121, 32, 115, 121, 124, 49]⟩, ⟨#[63, 114, 120, 124, 121, 32, 115, 121, 124, 122, 32, 114]⟩, ⟨#[63, 114, 120, 124, 121]⟩, ⟨#[63, 114, 120, 124, 122, 32, 115, 121, 124, 122]⟩]
theorem Y34 (M : Nat) : ((([(0, 1), (0, 2), (1, 1), (1, 2), (2, 1), (2, 2)] : List (Int × Int)).all fun z => okT (Z1n (M + 60) (rels4 z.1 z.2) ⟨#[63, 114, 120, 124, 121, 32, 115, 121, 124, 122]⟩) && knownS.all fun s => okP (Z1n (M + 60) (rels4 z.1 z.2) s))) = true := by
 kernel_rfl
theorem Y3n {l : List Rel} (hl : RelsD l) (hN : 1048576 < N) : (∃ q, Z1n N l ⟨#[63, 114, 120, 124, 121, 32, 115, 121, 124, 122]⟩ = some (q, true) /\ QD 0 q) /\ ∀ s ∈ knownS, ∃ q b, Z1n N l s = some (q, b) /\ (b = true -> QD 0 q) := by
 obtain ⟨_, _, x, y, hx, hy, rfl⟩ := hl
 obtain ⟨M, rfl⟩ : ∃ M, N = M + 60 := ⟨N - 60, by omega⟩
 have h := Y34 M
 rw [List.all_eq_true] at h
 have hm : ((x, y) : Int × Int) ∈ ([(0, 1), (0, 2), (1, 1), (1, 2), (2, 1), (2, 2)] : List (Int × Int)) := by
  rcases hx with rfl | rfl | rfl <;> rcases hy with rfl | rfl <;> simp
 have h1 := h _ hm
 simp only [Bool.and_eq_true, List.all_eq_true] at h1
 exact ⟨Y3m h1.1, fun s hs => Y3l (h1.2 s hs)⟩
theorem Y44 {c : Ctx} {l : List Rel} (h : COk c) (hl : RelsD l) (hN : 1048576 < N) : Dr c (Z34 N c l) (QD 0) := by
 obtain ⟨⟨q0, e0, h0⟩, hk⟩ := Y3n hl hN
 unfold Z34
 refine (Y3y h (by decide)).bind fun p s hp hs => ?_
 obtain ⟨q, b, e, hq⟩ := hk s hs
 simp only [e, Option.bind_some]
 cases b with
 | true =>
  rw [Bool.not_true, cond_false]
  exact Dr.ret (c := c) hp (hq rfl)
 | false =>
  simp only [Bool.not_false, cond_true, e0, Option.bind_some]
  exact Dr.ret (c := c) hp h0
theorem Y35 {c : Ctx} {q : Qry} (h : COk c) (hq : QD 0 q) (hN : 1048576 < N) : Dr c (Z3x N N c.1 c.2.1 c.2.2 0 [] [] q.1 q.2.1 q.2.2 0) (QD 101) := by
 have hv := hq.vars
 have hf := hq.free
 have := Yg (fun K (s : (Int × Int) × List Int × Nat) => Z3x N K c.1 s.1.1 s.1.2 0 [] [] q.1 q.2.1 s.2.1 (s.2.2 : Int)) (fun s => COk (c.1, s.1) /\ s.2.1.length <= s.2.2 /\ s.2.2 <= 101) (fun s => 101 - s.2.2) (fun o => Dr c o (QD 101)) (fun K s hs ih => by
  obtain ⟨p, fr, v⟩ := s
  obtain ⟨h1, h2, h3⟩ := hs
  simp only at h1 h2 h3 ⊢
  simp only [Z3x, Z6n]
  by_cases hc : (v : Int) < q.1
  ·obtain ⟨p2, b, e, hp2, _⟩ := Yh (N := N) (c := (c.1, p.1, p.2)) (n := 3) h1
   simp only [hc, decide_true, cond_true, e, Option.bind_some]
   cases b with
   | true =>
    rw [cond_true, Y4 (by omega) (by simp; omega), grd_true, Y0 (by omega)]
    exact ih (p2, fr ++ [(v : Int)], v + 1) ⟨hp2, by simp; omega, by simp only; omega⟩ (by simp only; omega)
   | false =>
    rw [cond_false, Y0 (by omega)]
    exact ih (p2, fr, v + 1) ⟨hp2, by simp only; omega, by simp only; omega⟩ (by simp only; omega)
  ·simp only [hc, decide_false, cond_false]
   exact Dr.ret (c := c) (p := p) h1 ⟨hv, hq.atoms, hq.terms, by simp only; omega⟩) N (c.2, q.2.2, 0) (by simp only; omega) ⟨h, by simpa using hf, by simp⟩
 exact this
theorem Y3t {c : Ctx} {l : List Rel} (h : COk c) (hl : RelsD l) (hN : 1048576 < N) : Dr c (Z31 N c l) (QD 101) := by
 unfold Z31 Z7s
 refine (Y43 h hN).bind fun p q hp hq => ?_
 refine (Yh (c := (c.1, p)) hp).bind fun p2 b hp2 _ => ?_
 cases b with
 | true =>
  rw [cond_true]
  refine (Y44 (c := (c.1, p2)) hp2 hl hN).bind fun p3 q3 hp3 hq3 => ?_
  refine (Yh (c := (c.1, p3)) hp3).bind fun p4 b4 hp4 _ => ?_
  cases b4 with
  | true => rw [cond_true]; exact Y35 (c := (c.1, p4)) hp4 hq3 hN
  | false => rw [cond_false]; exact Dr.ret (c := c) hp4 (hq3.mono (by omega))
 | false =>
  rw [cond_false]
  refine (Yh (c := (c.1, p2)) hp2).bind fun p4 b4 hp4 _ => ?_
  cases b4 with
  | true => rw [cond_true]; exact Y35 (c := (c.1, p4)) hp4 hq hN
  | false => rw [cond_false]; exact Dr.ret (c := c) hp4 (hq.mono (by omega))
theorem anyQ {c : Ctx} {l : List Rel} (h : COk c) (hl : RelsD l) (hN : 1048576 < N) : Dr c (Z4f N c l) (fun q => q.2.2.length <= 200) := by
 unfold Z4f
 refine (Y3t h hl hN).bind fun p q hp hq => ?_
 have ha := hq.atoms
 have hf := hq.free
 refine (Y5 (c := (c.1, p)) hp).bind fun p2 x hp2 hx => ?_
 cases (x == 0) with
 | true =>
  rw [cond_true]
  refine (Yp (c := (c.1, p2)) hp2 (by simp)).bind fun p3 y hp3 hy => ?_
  exact Dr.ret (c := c) hp3 (by simp only; omega)
 | false =>
  rw [cond_false]
  cases (x == 1) with
  | true =>
   rw [cond_true]
   refine (Y5 (c := (c.1, p2)) hp2).bind fun p3 y hp3 hy => ?_
   simp only
   rw [Y4 (by omega) (by simp; omega), grd_true]
   exact Dr.ret (c := c) hp3 (by simp only; omega)
  | false =>
   rw [cond_false]
   cases (x == 2) with
   | true =>
    have h0 : 0 < q.2.1.length := by omega
    have ht := hq.terms _ (List.getElem_mem h0)
    have e0 : inb 0 q.2.1 = true := Y9 (by omega) (by omega)
    have e1 : at_ ((0, []) : Atm) q.2.1 0 = q.2.1[0] := Yw (by omega) (by omega)
    simp only [cond_true, e0, grd_true, e1]
    refine (Yp (c := (c.1, p2)) hp2 (by decide)).bind fun p3 y hp3 hy => ?_
    simp only [Y9 (i := 0) (xs := (q.2.1[0]).2) (by omega) (by omega), grd_true, letv_eq]
    exact Dr.ret (c := c) hp3 (by simp only; omega)
   | false =>
    rw [cond_false]
    cases (x == 3) with
    | true =>
     rw [cond_true]
     refine (Y5 (c := (c.1, p2)) hp2).bind fun p3 y hp3 hy => ?_
     simp only
     rw [Y4 (by omega) (by simp; omega), grd_true]
     exact Dr.ret (c := c) hp3 (by simp; omega)
    | false =>
     rw [cond_false]
     exact Dr.ret (c := c) hp2 (by simp only; omega)
theorem cut1 {N K : Nat} {c : Ctx} {l : List Rel} {fs : List Fact} (hc : COk c) (hl : RelsD l) (hd : DbD 20 (l, fs)) (hK : 30 < K) : Dr c (Z4t N K c.1 c.2.1 c.2.2 [] [] l fs) (fun d => RelsD d.1 /\ DbD 20 d) := by
 have := Yg (fun K (s : List Fact) => Z4t N K c.1 c.2.1 c.2.2 [] [] l s) (fun s => DbD 20 (l, s)) (fun s => s.length) (fun o => Dr c o (fun d => RelsD d.1 /\ DbD 20 d)) (fun K s hs ih => by
  have hf : s.length <= 20 := hs.facts
  simp only [Z4t, Z78]
  by_cases h9 : (s.length : Int) > 9
  ·have e : w64 ((s.length : Int) - 1) = ((s.length - 1 : Nat) : Int) := Y8 (by omega) (by omega)
   have s2 : subOk 0 ((s.length - 1 : Nat) : Int) s.length = true := by simp [subOk] <;> omega
   simp only [h9, decide_true, cond_true, e, s2, grd_true, Int.toNat_natCast]
   refine ih _ ⟨hs.rels, ?_, fun f hx => hs.vals f (List.mem_of_mem_take hx)⟩ (by rw [List.length_take]; omega)
   simp only [List.length_take]
   omega
  ·simp only [h9, decide_false, cond_false]
   exact Dr.ret (c := c) (p := c.2) hc ⟨hl, hs⟩) K fs (by have : fs.length <= 20 := hd.facts; omega) hd
 exact this
theorem Y4l {c : Ctx} (h : COk c) (hN : 1048576 < N) : Dr c (Z5l N c) (fun d => RelsD d.1 /\ DbD 20 d) := by
 unfold Z5l Z8b
 refine (dbOk h hN).bind fun p d hp hd => ?_
 have hf := hd.2.facts
 obtain ⟨M, rfl⟩ : ∃ M, N = M + 1 := ⟨N - 1, by omega⟩
 simp only [Z6v, Z79]
 by_cases h9 : (d.2.length : Int) > 9
 ·have e : w64 ((d.2.length : Int) - 1) = ((d.2.length - 1 : Nat) : Int) := Y8 (by omega) (by omega)
  have s2 : subOk 0 ((d.2.length - 1 : Nat) : Int) d.2.length = true := by simp [subOk] <;> omega
  simp only [h9, decide_true, cond_true, e, s2, grd_true, Int.toNat_natCast]
  refine cut1 (c := (c.1, p)) hp hd.1 ⟨hd.2.rels, ?_, fun f hx => hd.2.vals f (List.mem_of_mem_take hx)⟩ (by omega)
  simp only [List.length_take]
  omega
 ·simp only [h9, decide_false, cond_false]
  exact Dr.ret (c := c) hp hd
theorem Y4d {code : List Int} (hc : code.length <= 1048576) (hN : 1048576 < N) : ∃ c d q, Z3r N code = some (c, d, q) /\ COk c /\ DbD 20 d /\ q.2.2.length <= 200 := by
 obtain ⟨c, e1, hc1⟩ := Y4i (N := N) hc hN
 obtain ⟨p, d, e2, hp, hd⟩ := Y4l hc1 hN
 obtain ⟨p2, q, e3, hp2, hq⟩ := Y3t (N := N) (c := (c.1, p)) hp hd.1 hN
 obtain ⟨p3, b, e4, hp3, _⟩ := Yh (N := N) (c := (c.1, p2)) (n := 20) hp2
 have hf := hq.free
 unfold Z3r
 simp only at e3 e4
 simp only [e1, Option.bind_some, e2, e3, e4]
 cases b with
 | true =>
  obtain ⟨p4, q4, e5, hp4, hq4⟩ := anyQ (N := N) (c := (c.1, p3)) hp3 hd.1 hN
  simp only at e5
  simp only [cond_true, e5, Option.bind_some]
  exact ⟨_, _, _, rfl, hp4, hd.2, by omega⟩
 | false =>
  rw [cond_false]
  exact ⟨_, _, _, rfl, hp3, hd.2, by omega⟩
theorem Y4e {c : Ctx} (h : COk c) : Dr c (Z4g N c) (fun _ => True) := by
 unfold Z4g
 refine (Y5 h).bind fun p1 x1 hp1 _ => ?_
 refine (Y5 (c := (c.1, p1)) hp1).bind fun p2 x2 hp2 _ => ?_
 refine (Y5 (c := (c.1, p2)) hp2).bind fun p3 x3 hp3 _ => ?_
 refine (Y5 (c := (c.1, p3)) hp3).bind fun p4 x4 hp4 _ => ?_
 refine (Y5 (c := (c.1, p4)) hp4).bind fun p5 x5 hp5 _ => ?_
 refine (Y5 (c := (c.1, p5)) hp5).bind fun p6 x6 hp6 _ => ?_
 refine (Y5 (c := (c.1, p6)) hp6).bind fun p7 x7 hp7 _ => ?_
 refine (Y5 (c := (c.1, p7)) hp7).bind fun p8 x8 hp8 _ => ?_
 cases (x8 == 0) with
 | true =>
  rw [cond_true]
  refine (Yp (c := (c.1, p8)) hp8 (by decide)).bind fun p9 y hp9 _ => ?_
  exact Dr.ret (c := c) hp9 trivial
 | false =>
  rw [cond_false]
  cases (x8 == 1) with
  | true =>
   rw [cond_true]
   refine (Yp (c := (c.1, p8)) hp8 (by decide)).bind fun p9 y hp9 _ => ?_
   exact Dr.ret (c := c) hp9 trivial
  | false =>
   rw [cond_false]
   cases (x8 == 2) with
   | true =>
    rw [cond_true]
    refine (Y5 (c := (c.1, p8)) hp8).bind fun p9 y hp9 _ => ?_
    exact Dr.ret (c := c) hp9 trivial
   | false =>
    rw [cond_false]
    exact Dr.ret (c := c) hp8 trivial
theorem Y4f {c : Ctx} (h : COk c) (hN : 1048576 < N) : Dr c (Z54 N c) (fun l => l.length <= 3) := by
 unfold Z54 Z81
 refine (Y5 h).bind fun p n hp hn => ?_
 have n1 := hn.1
 have n2 := hn.2.1 (by decide)
 obtain ⟨n, rfl⟩ : ∃ k : Nat, n = k := ⟨n.toNat, by omega⟩
 have := Yg (fun K (s : (Int × Int) × List (Int × Int × Int × Int × Int × Int × Int) × Nat) => Z5g N K c.1 s.1.1 s.1.2 s.2.1 (s.2.2 : Int)) (fun s => COk (c.1, s.1) /\ s.2.1.length + s.2.2 <= 3) (fun s => s.2.2) (fun o => Dr c o (fun l => l.length <= 3)) (fun K s hs ih => by
  obtain ⟨p, l, k⟩ := s
  obtain ⟨h1, h2⟩ := hs
  simp only at h1 h2 ⊢
  simp only [Z5g, Z70]
  by_cases hk : (k : Int) > 0
  ·obtain ⟨p2, x, e, hp2, _⟩ := Y4e (N := N) (c := (c.1, p.1, p.2)) h1
   simp only [hk, decide_true, cond_true, e, Option.bind_some]
   rw [Y4 (by omega) (by simp; omega), grd_true, Y8 (by omega) (by omega)]
   exact ih (p2, l ++ [x], k - 1) ⟨hp2, by simp; omega⟩ (by simp only; omega)
  ·simp only [hk, decide_false, cond_false]
   exact Dr.ret (c := c) (p := p) h1 (by omega)) N (p, [], n) (by simp only; omega) ⟨hp, by simp; omega⟩
 exact this
theorem Y4g {code : List Int} (hc : code.length <= 1048576) (hN : 1048576 < N) : ∃ c d l q, Z3s N code = some (c, d, l, q) /\ COk c /\ DbD 20 d /\ l.length <= 3 /\ q.2.2.length <= 200 := by
 obtain ⟨c, d, q, e1, hc1, hd, hq⟩ := Y4d (N := N) hc hN
 obtain ⟨p, l, e2, hp, hl⟩ := Y4f (N := N) hc1 hN
 unfold Z3s
 simp only [e1, Option.bind_some, e2]
 exact ⟨_, d, l, q, rfl, hp, hd, hl, hq⟩
theorem Y2d {code : List Int} (hc : code.length <= 1048576) (hN : 1048576 < N) : ∃ d l s, Z1b N code = some (d, l, s) /\ DbD 20 d /\ l.length <= 3 /\ s.length <= 900 := by
 obtain ⟨c, d, l, q, e1, hc1, hd, hl, hq⟩ := Y4g (N := N) hc hN
 obtain ⟨p, s, e2, _, hs⟩ := Y3k (N := N) hc1 hd (by omega) hN
 unfold Z1b
 simp only [e1, Option.bind_some, e2]
 exact ⟨d, l, s, rfl, hd, hl, hs⟩
theorem Yq {β R : Type} {n m B lo : Nat} (piece : Nat -> List β) {f : Nat -> List β -> Int -> Option R} {g : List β -> Option R} (hp : ∀ j, (piece j).length <= m) (hend : ∀ k out, f (k + 1) out (n : Int) = g out)
  (hstep : ∀ k out j, lo <= j -> j < n -> out.length <= B -> f (k + 1) out (j : Int) = f k (out ++ piece j) ((j + 1 : Nat) : Int)) : ∀ {k j : Nat} {out : List β}, n - j < k -> lo <= j -> j <= n -> out.length + (n - j) * m <= B -> f k out (j : Int) = g (out ++ (List.range' j (n - j)).flatMap piece)
 | 0, j, out, hk, hlo, hj, hB => by omega
 | k + 1, j, out, hk, hlo, hj, hB => by
  by_cases h : j < n
  ·have e : n - j = (n - (j + 1)) + 1 := by omega
   rw [e, Nat.add_mul] at hB
   have := hp j
   rw [hstep k out j hlo h (by omega), Yq piece hp hend hstep (by omega) (by omega) (by omega) (by rw [List.length_append]; omega)]
   rw [e, List.range'_succ, List.flatMap_cons, List.append_assoc]
  ·have : j = n := by omega
   subst this
   rw [hend, Nat.sub_self]; simp
abbrev Con := Int × Int × Int × Int × Int × Int × Int
def arOf (d : Db) (r : Int) : Int := (d.1.getD r.toNat (⟨#[]⟩, 0, 0)).2.1
def inR (x a b : Int) : Bool := decide (a <= x /\ x <= b)
def conOk (d : Db) (x : Con) : Bool := inR x.1 0 ((d.1.length : Int) - 1) && (inR x.2.1 0 ((d.1.length : Int) - 1) && (inR x.2.2.1 0 (arOf d x.1 - 1) && (inR x.2.2.2.2.1 0 (arOf d x.1 - 1) && (inR x.2.2.2.1 0 (arOf d x.2.1 - 1) && (inR x.2.2.2.2.2.1 0 (arOf d x.2.1 - 1) && inR x.2.2.2.2.2.2 1 2)))))
theorem Yb {x a b : Int} (h : inR x a b = true) : a <= x /\ x <= b := by simpa [inR] using h
theorem Y2r {d : Db} {x : Con} (h : SmallDb d) (hvb : validDb d = true) (hN : 1048576 < N) : Z11 N d x = some (conOk d x) := by
 have hr := h.rels
 have hv := Y7 hvb
 unfold Z11 conOk
 rw [Ym h hN, hvb, Option.bind_some]
 simp only [Bool.not_true, cond_false, l1In, Option.bind_some]
 rw [Y6 (x := (d.1.length : Int) - 1) (by omega) (by omega)]
 rw [show ∀ a b c : Int, decide (a <= b /\ b <= c) = inR b a c from fun _ _ _ => rfl, show ∀ a b c : Int, decide (a <= b /\ b <= c) = inR b a c from fun _ _ _ => rfl]
 cases h1 : inR x.1 0 ((d.1.length : Int) - 1) with
 | false => rfl
 | true =>
  cases h2 : inR x.2.1 0 ((d.1.length : Int) - 1) with
  | false => rfl
  | true =>
   have i1 := Yb h1
   have i2 := Yb h2
   have a1 := Y17 (Yn hv.rels (j := x.1.toNat) (by omega))
   have a2 := Y17 (Yn hv.rels (j := x.2.1.toNat) (by omega))
   simp only [Bool.not_true, cond_false, Y9 i1.1 (show x.1 < (d.1.length : Int) by omega), Y9 i2.1 (show x.2.1 < (d.1.length : Int) by omega), grd_true]
   rw [show (at_ (⟨#[]⟩, (0, 0)) d.1 x.1).2.1 = arOf d x.1 from rfl, show (at_ (⟨#[]⟩, (0, 0)) d.1 x.2.1).2.1 = arOf d x.2.1 from rfl]
   have b1 : 1 <= arOf d x.1 /\ arOf d x.1 <= 3 := a1
   have b2 : 1 <= arOf d x.2.1 /\ arOf d x.2.1 <= 3 := a2
   rw [Y6 (x := arOf d x.1 - 1) (by omega) (by omega), Y6 (x := arOf d x.2.1 - 1) (by omega) (by omega)]
   simp only [inR, Bool.true_and]
   cases decide (0 <= x.2.2.1 /\ x.2.2.1 <= arOf d x.1 - 1) <;> cases decide (0 <= x.2.2.2.2.1 /\ x.2.2.2.2.1 <= arOf d x.1 - 1) <;> cases decide (0 <= x.2.2.2.1 /\ x.2.2.2.1 <= arOf d x.2.1 - 1) <;> cases decide (0 <= x.2.2.2.2.2.1 /\ x.2.2.2.2.2.1 <= arOf d x.2.1 - 1) <;> rfl
theorem Y45 {d : Db} {x : Con} (h : SmallDb d) (hvb : validDb d = true) (hN : 1048576 < N) : Z1d N d x = some (conOk d x) := by
 rw [<- Y2r h hvb hN]
 unfold Z1d Z11
 rw [Ym h hN, Y1k h hN]
 simp only [Yk, l1In]
def viol (d : Db) (x : Con) (i k : Nat) : Bool := conOk d x && (decide ((factAt d i).1 = x.1) && (decide ((factAt d k).1 = x.2.1) && (decide (at_ 0 (factAt d i).2 x.2.2.1 = at_ 0 (factAt d k).2 x.2.2.2.1) &&
 (if x.2.2.2.2.2.2 = 1 then decide (at_ 0 (factAt d i).2 x.2.2.2.2.1 = at_ 0 (factAt d k).2 x.2.2.2.2.2.1) else decide (at_ 0 (factAt d i).2 x.2.2.2.2.1 < at_ 0 (factAt d k).2 x.2.2.2.2.2.1)))))
theorem Y2s {d : Db} (hv : ValidDb d) {x : Con} (hc : conOk d x = true) {i k : Nat} (hi : i < d.2.length) (hk : k < d.2.length) (h1 : (factAt d i).1 = x.1) (h2 : (factAt d k).1 = x.2.1) :
  inb x.2.2.1 (factAt d i).2 = true /\ inb x.2.2.2.2.1 (factAt d i).2 = true /\ inb x.2.2.2.1 (factAt d k).2 = true /\ inb x.2.2.2.2.2.1 (factAt d k).2 = true /\ (x.2.2.2.2.2.2 = 1 \/ x.2.2.2.2.2.2 = 2) := by
 unfold conOk at hc
 simp only [Bool.and_eq_true] at hc
 obtain ⟨_, _, c3, c4, c5, c6, c7⟩ := hc
 have i3 := Yb c3
 have i4 := Yb c4
 have i5 := Yb c5
 have i6 := Yb c6
 have i7 := Yb c7
 have l1 := (Yo hv.rels (hv.fact i hi)).len
 have l2 := (Yo hv.rels (hv.fact k hk)).len
 rw [h1] at l1
 rw [h2] at l2
 have l1 : ((factAt d i).2.length : Int) = arOf d x.1 := l1
 have l2 : ((factAt d k).2.length : Int) = arOf d x.2.1 := l2
 exact ⟨Y9 i3.1 (by omega), Y9 i4.1 (by omega), Y9 i5.1 (by omega), Y9 i6.1 (by omega), by omega⟩
theorem Y1b {d : Db} {x : Con} (h : SmallDb d) (hvb : validDb d = true) (hN : 1048576 < N) {i k : Nat} (hi : i < d.2.length) (hk : k < d.2.length) (hne : i ≠ k) : Z0y N d x i k = some (viol d x i k) := by
 have hf := h.facts
 have hv := Y7 hvb
 unfold Z0y viol
 rw [Y2r h hvb hN, Option.bind_some]
 cases hc : conOk d x with
 | false => rfl
 | true =>
  have e1 : (0 : Int) <= (i : Int) /\ (i : Int) <= (d.2.length : Int) - 1 := by omega
  have e2 : (0 : Int) <= (k : Int) /\ (k : Int) <= (d.2.length : Int) - 1 := by omega
  have e3 : ((i : Int) == (k : Int)) = false := by rw [beqI]; exact decide_eq_false (by omega)
  simp only [Bool.not_true, cond_false, l1In, Option.bind_some, Bool.true_and]
  rw [Y6 (x := (d.2.length : Int) - 1) (by omega) (by omega), decide_eq_true e1, decide_eq_true e2, e3]
  simp only [Bool.not_true, cond_false, Y1 hi, Y1 hk, grd_true, Yc hi, Yc hk, bneI]
  by_cases h1 : (factAt d i).1 = x.1
  ·by_cases h2 : (factAt d k).1 = x.2.1
   ·obtain ⟨k1, k2, k3, k4, k5⟩ := Y2s hv hc hi hk h1 h2
    simp only [h1, h2, decide_true, Bool.not_true, cond_false, k1, k2, k3, k4, grd_true, Bool.true_and]
    by_cases h3 : at_ 0 (factAt d i).2 x.2.2.1 = at_ 0 (factAt d k).2 x.2.2.2.1
    ·simp only [h3, decide_true, Bool.not_true, cond_false, Bool.true_and]
     by_cases h4 : x.2.2.2.2.2.2 = 1
     ·simp only [h4, if_true, beqI, decide_true, cond_true]
     ·simp only [h4, if_false, beqI, decide_false, cond_false]
    ·simp only [h3, decide_false, Bool.not_false, cond_true, Bool.false_and]
   ·simp only [h1, h2, decide_true, decide_false, Bool.not_true, Bool.not_false, cond_false, cond_true, Bool.false_and, Bool.true_and]
  ·simp only [h1, decide_false, Bool.not_false, cond_true, Bool.false_and]
theorem Y24 {d : Db} {x : Con} (h : SmallDb d) (hvb : validDb d = true) (hN : 1048576 < N) {i k : Nat} (hi : i < d.2.length) (hk : k < d.2.length) (hne : i ≠ k) : Z0x N d x i k = some (viol d x i k) := by
 have hf := h.facts
 have hv := Y7 hvb
 unfold Z0x viol
 rw [Y45 h hvb hN, Option.bind_some]
 cases hc : conOk d x with
 | false => rfl
 | true =>
  have e1 : (0 : Int) <= (i : Int) /\ (i : Int) <= (d.2.length : Int) - 1 := by omega
  have e2 : (0 : Int) <= (k : Int) /\ (k : Int) <= (d.2.length : Int) - 1 := by omega
  have e3 : ((i : Int) != (k : Int)) = true := by rw [bneI, decide_eq_false (by omega)]; rfl
  simp only [cond_true, Yk, Option.bind_some, Bool.true_and, e3]
  rw [Y6 (x := (d.2.length : Int) - 1) (by omega) (by omega), decide_eq_true e1, decide_eq_true e2]
  simp only [cond_true, Y1 hi, Y1 hk, grd_true, Yc hi, Yc hk]
  have bb : ∀ o : Option Bool, (o.bind fun r4 => some r4) = o := fun o => by cases o <;> rfl
  rw [bb]
  unfold Z4u
  simp only [bneI]
  by_cases h1 : (factAt d i).1 = x.1
  ·by_cases h2 : (factAt d k).1 = x.2.1
   ·obtain ⟨k1, k2, k3, k4, k5⟩ := Y2s hv hc hi hk h1 h2
    simp only [h1, h2, decide_true, Bool.not_true, cond_false, k1, k2, k3, k4, grd_true, Bool.true_and]
    by_cases h3 : at_ 0 (factAt d i).2 x.2.2.1 = at_ 0 (factAt d k).2 x.2.2.2.1
    ·simp only [h3, decide_true, Bool.not_true, cond_false, Bool.true_and]
     rcases k5 with k5 | k5
     ·simp only [k5, if_true, beqI, decide_true, cond_true]
      by_cases h5 : at_ 0 (factAt d i).2 x.2.2.2.2.1 = at_ 0 (factAt d k).2 x.2.2.2.2.2.1
      ·simp [h5]
      ·simp [h5]
     ·simp [k5, beqI]
    ·simp only [h3, decide_false, Bool.not_false, cond_true, Bool.false_and]
   ·simp only [h1, h2, decide_true, decide_false, Bool.not_true, Bool.not_false, cond_false, cond_true, Bool.false_and, Bool.true_and]
  ·simp only [h1, decide_false, Bool.not_false, cond_true, Bool.false_and]
def vany (d : Db) (l : List Con) (i k : Nat) : Bool := l.any fun x => viol d x i k || viol d x k i
def edge (d : Db) (l : List Con) (i k : Nat) : Bool := sameD d i k || vany d l i k
def edgeP (d : Db) (l : List Con) (i k : Nat) : List (Int × Int) := if edge d l i k then [((i : Int), (k : Int))] else []
def edgeR (d : Db) (l : List Con) (i : Nat) : List (Int × Int) := (List.range' (i + 1) (d.2.length - (i + 1))).flatMap (edgeP d l i)
def edgesOf (d : Db) (l : List Con) : List (Int × Int) := (List.range d.2.length).flatMap (edgeR d l)
theorem Y12 (d : Db) (l : List Con) (i k : Nat) : (edgeP d l i k).length <= 1 := by unfold edgeP; split <;> simp
theorem Y13 {β : Type} {piece : Nat -> List β} {m : Nat} (h : ∀ k, (piece k).length <= m) (s n : Nat) : ((List.range' s n).flatMap piece).length <= n * m := by
 have := Yt (piece := piece) (n := m) (a := List.range' s n) (fun x _ => h x)
 simpa using this
theorem Y14 {d : Db} (hv : ValidDb d) (l : List Con) (i : Nat) : (edgeR d l i).length <= 14 := by
 have := Y13 (Y12 d l i) (i + 1) (d.2.length - (i + 1))
 have := hv.few
 unfold edgeR; omega
theorem Y1u {d : Db} (hv : ValidDb d) (l : List Con) : (edgesOf d l).length <= 196 := by
 have := Yt (piece := edgeR d l) (n := 14) (a := List.range d.2.length) (fun x _ => Y14 hv l x)
 have := hv.few
 simp only [List.length_range] at *
 unfold edgesOf
 omega
theorem Y1c {α : Type} {l : List α} {p : α -> Bool} {j : Nat} (h : j < l.length) : (l.drop j).any p = (p l[j] || (l.drop (j + 1)).any p) := by rw [List.drop_eq_getElem_cons h, List.any_cons]
theorem Yi {d : Db} {k : Nat} (hk : k < d.2.length) : factAt d k ∈ d.2 := by unfold factAt; rw [Y2 hk]; exact List.getElem_mem hk
theorem Yr {N : Nat} {d : Db} {l : List Con} (h : SmallDb d) (hl : l.length <= 1048576) (hvb : validDb d = true) (hN : 1048576 < N) {i k : Nat} (hik : i < k) (hk : k < d.2.length) (Rc : List Con -> List Rel -> List Fact -> List (Int × Int) -> Int -> Int -> Option (List (Int × Int))) {out : List (Int × Int)} (ho : out.length <= 1000) :
  ∀ {f j : Nat} {is_ : Bool}, l.length - j < f -> j <= l.length -> Z25 Rc N f l d.1 d.2 out i k is_ (j : Int) = Rc l d.1 d.2 (out ++ (if is_ || (l.drop j).any (fun x => viol d x i k || viol d x k i) then [((i : Int), (k : Int))] else [])) i ((k + 1 : Nat) : Int)
 | 0, j, is_, hf, hj => by omega
 | f + 1, j, is_, hf, hj => by
  have few := (Y7 hvb).few
  by_cases hlt : j < l.length
  ·have h1 : (j : Int) < (l.length : Int) := by omega
   simp only [Z25, Z39, h1, decide_true, cond_true, Y0 (j := j) (by omega), Y1 hlt, grd_true, Y3 hlt]
   rw [Y1c hlt]
   cases is_ with
   | true =>
    rw [cond_true, Yr h hl hvb hN hik hk Rc ho (by omega) (by omega)]
    simp
   | false =>
    have v1 := Y1b (x := l[j]) h hvb hN (i := i) (k := k) (by omega) hk (by omega)
    have v2 := Y1b (x := l[j]) h hvb hN (i := k) (k := i) hk (by omega) (by omega)
    rw [cond_false]
    erw [v1]
    rw [Option.bind_some]
    cases hv1 : viol d l[j] i k with
    | true =>
     rw [cond_true, Yr h hl hvb hN hik hk Rc ho (by omega) (by omega)]
     simp
    | false =>
     rw [cond_false]
     erw [v2]
     rw [Option.bind_some, Yr h hl hvb hN hik hk Rc ho (by omega) (by omega)]
     simp only [Bool.false_or]
  ·have : j = l.length := by omega
   subst this
   have h1 : ¬ (l.length : Int) < (l.length : Int) := by omega
   simp only [Z25, Z39, h1, decide_false, cond_false, Y0 (j := k) (by omega), List.drop_length, List.any_nil, Bool.or_false]
   cases is_ with
   | true =>
    have : appOk out [((i : Int), (k : Int))] 16 = true := Y22 (by simp only [List.length_singleton]; omega)
    rw [cond_true, this, grd_true, if_pos rfl]
   | false => simp
theorem Y36 {d : Db} {l : List Con} (h : SmallDb d) (hl : l.length <= 1048576) (hvb : validDb d = true) (hN : 1048576 < N) {i : Nat} (hi : i < d.2.length) (R0 : List Con -> List Rel -> List Fact -> List (Int × Int) -> Int -> Option (List (Int × Int))) {out : List (Int × Int)} (ho : out.length <= 500) :
  Z0u R0 N N l d.1 d.2 out i ((i + 1 : Nat) : Int) = R0 l d.1 d.2 (out ++ edgeR d l i) ((i + 1 : Nat) : Int) := by
 have few := (Y7 hvb).few
 have hv := Y7 hvb
 refine Yq (n := d.2.length) (m := 1) (B := 1000) (edgeP d l i) (f := fun k out j => Z0u R0 N k l d.1 d.2 out i j) (g := fun out => R0 l d.1 d.2 out ((i + 1 : Nat) : Int)) (Y12 d l i) (fun k out => by
  have h1 : ¬ (d.2.length : Int) < (d.2.length : Int) := by omega
  simp only [Z0u, Z3a, h1, decide_false, cond_false, Y0 (j := i) (by omega)]) (lo := i + 1) (fun f out k hik hk hB => ?_) (by omega) (by omega) (by omega) (by omega)
 have hik : i < k := hik
 have h1 : (k : Int) < (d.2.length : Int) := by omega
 simp only [Z0u, Z3a, h1, decide_true, cond_true, Y1 hi, Y1 hk, grd_true, Yc hi, Yc hk]
 rw [Y3i h.rels (h.vals _ (Yi hi)) (h.vals _ (Yi hk)) hN hv.rels (hv.fact i hi) (hv.fact k hk), Option.bind_some]
 have := Yr h hl hvb hN hik hk (Z0u R0 N f) hB (f := N) (j := 0) (is_ := sameK d.1 (factAt d i) (factAt d k)) (by omega) (by omega)
 rw [show ((0 : Nat) : Int) = 0 from rfl] at this
 rw [this, List.drop_zero]
 rfl
theorem Y1v {d : Db} {l : List Con} (h : SmallDb d) (hl : l.length <= 1048576) (hN : 1048576 < N) : Z19 N d l = some (if validDb d then edgesOf d l else []) := by
 have hf := h.facts
 unfold Z19 Z5s
 cases hvb : validDb d with
 | false =>
  obtain ⟨n, rfl⟩ : ∃ n, N = n + 1 := ⟨N - 1, by omega⟩
  simp only [Z16, Z2g]
  have := Ym h hN
  rw [hvb] at this
  have this : Z5 (n + 1) (d.1, d.2) = some false := this
  rw [this]
  by_cases h0 : (0 : Int) < (d.2.length : Int)
  ·rw [decide_eq_true h0]; rfl
  ·rw [decide_eq_false h0]; rfl
 | true =>
  have hv := Y7 hvb
  have few := hv.few
  rw [if_pos rfl]
  have := Yq (n := d.2.length) (m := 14) (B := 400) (lo := 0) (edgeR d l) (f := fun k out j => Z16 N k l d.1 d.2 out j) (g := fun out => some out) (Y14 hv l) (fun k out => by
   have h1 : ¬ (d.2.length : Int) < (d.2.length : Int) := by omega
   simp only [Z16, Z2g, h1, decide_false, cond_false]) (fun f out i _ hi hB => by
   have h1 : (i : Int) < (d.2.length : Int) := by omega
   have hd := Ym h hN
   rw [hvb] at hd
   have hd : Z5 N (d.1, d.2) = some true := hd
   simp only [Z16, Z2g, h1, decide_true, cond_true, hd, Option.bind_some, Y0 (j := i) (by omega)]
   rw [Y36 h hl hvb hN hi _ (by omega)]) (k := N) (j := 0) (out := []) (by omega) (by omega) (by omega) (by simp only [List.length_nil]; omega)
  rw [show ((0 : Nat) : Int) = 0 from rfl] at this
  rw [this, List.nil_append, Nat.sub_zero, <- List.range_eq_range']
  rfl
theorem Y37 {d : Db} {l : List Con} (h : SmallDb d) (hl : l.length <= 1048576) (hvb : validDb d = true) (hN : 1048576 < N) {i k : Nat} (hik : i < k) (hk : k < d.2.length) : Z1j N i k l d = some (edge d l i k) := by
 have hv := Y7 hvb
 have go : ∀ {f j : Nat}, l.length - j < f -> j <= l.length -> Z1i N f i k d.1 d.2 l (l.length : Int) (j : Int) = some ((l.drop j).any (fun x => viol d x i k || viol d x k i) || sameD d i k) := by
  intro f
  induction f with
  | zero => intro j hf hj; omega
  | succ f ih =>
   intro j hf hj
   by_cases hlt : j < l.length
   ·have h1 : (j : Int) < (l.length : Int) := by omega
    have v1 := Y1b (x := l[j]) h hvb hN (i := i) (k := k) (by omega) hk (by omega)
    have v1 := Y24 (x := l[j]) h hvb hN (i := i) (k := k) (by omega) hk (by omega)
    have v2 := Y24 (x := l[j]) h hvb hN (i := k) (k := i) hk (by omega) (by omega)
    simp only [Z1i, Z2q, h1, decide_true, cond_true, Y0 (j := j) (by omega), Y1 hlt, grd_true, Y3 hlt]
    rw [Y1c hlt]
    erw [v1]
    rw [Option.bind_some]
    cases hv1 : viol d l[j] i k with
    | true => simp
    | false =>
     rw [cond_false]
     erw [v2]
     rw [Option.bind_some]
     cases hv2 : viol d l[j] k i with
     | true => simp
     | false =>
      rw [cond_false, ih (by omega) (by omega)]
      simp only [Bool.false_or]
   ·have : j = l.length := by omega
    subst this
    have h1 : ¬ (l.length : Int) < (l.length : Int) := by omega
    have hi : i < d.2.length := by omega
    simp only [Z1i, Z2q, h1, decide_false, cond_false, List.drop_length, List.any_nil, Bool.false_or, Y1 hi, Y1 hk, grd_true, Yc hi, Yc hk]
    rw [Y3j (h.vals _ (Yi hi)) (h.vals _ (Yi hk)) hN hv.rels (hv.fact i hi) (hv.fact k hk)]
    rfl
 unfold Z1j Z4q
 have := go (f := N) (j := 0) (by omega) (by omega)
 rw [show ((0 : Nat) : Int) = 0 from rfl] at this
 rw [this, List.drop_zero, Bool.or_comm]
 rfl
theorem Y38 {d : Db} {l : List Con} (h : SmallDb d) (hl : l.length <= 1048576) (hvb : validDb d = true) (hN : 1048576 < N) {i : Nat} (hi : i < d.2.length) (R0 : Int -> List Con -> Db -> List (Int × Int) -> Int -> Int -> Option (List (Int × Int))) {out : List (Int × Int)} (ho : out.length <= 500) :
  Z0l R0 N N (d.2.length : Int) l d out i ((i + 1 : Nat) : Int) (d.2.length : Int) i = R0 (d.2.length : Int) l d (out ++ edgeR d l i) (d.2.length : Int) ((i + 1 : Nat) : Int) := by
 have few := (Y7 hvb).few
 refine Yq (n := d.2.length) (m := 1) (B := 1000) (edgeP d l i) (f := fun k out j => Z0l R0 N k (d.2.length : Int) l d out i j (d.2.length : Int) i) (g := fun out => R0 (d.2.length : Int) l d out (d.2.length : Int) ((i + 1 : Nat) : Int)) (Y12 d l i) (fun k out => by
  have h1 : ¬ (d.2.length : Int) < (d.2.length : Int) := by omega
  simp only [Z0l, Z1s, h1, decide_false, cond_false, Y0 (j := i) (by omega)]) (lo := i + 1) (fun f out k hik hk hB => ?_) (by omega) (by omega) (by omega) (by omega)
 have hik : i < k := hik
 have h1 : (k : Int) < (d.2.length : Int) := by omega
 simp only [Z0l, Z1s, h1, decide_true, cond_true, Y37 h hl hvb hN hik hk, Option.bind_some, Y0 (j := k) (by omega)]
 unfold edgeP
 cases edge d l i k with
 | true =>
  have : appOk out [((i : Int), (k : Int))] 16 = true := Y22 (by simp only [List.length_singleton]; omega)
  rw [cond_true, this, grd_true, if_pos rfl]
 | false => simp
theorem Y39 {d : Db} {l : List Con} (h : SmallDb d) (hl : l.length <= 1048576) (hN : 1048576 < N) : Z29 N d l = some (if validDb d then edgesOf d l else []) := by
 have hf := h.facts
 unfold Z29
 rw [Y1k h hN, Option.bind_some]
 cases hvb : validDb d with
 | false => rfl
 | true =>
  have hv := Y7 hvb
  have few := hv.few
  rw [if_pos rfl, Bool.not_true, cond_false]
  unfold Z15 Z35
  have := Yq (n := d.2.length) (m := 14) (B := 400) (lo := 0) (edgeR d l) (f := fun k out j => Z0m N k (d.2.length : Int) l d out (d.2.length : Int) j) (g := fun out => some out) (Y14 hv l) (fun k out => by
   have h1 : ¬ (d.2.length : Int) < (d.2.length : Int) := by omega
   simp only [Z0m, Z1t, h1, decide_false, cond_false]) (fun f out i _ hi hB => by
   have h1 : (i : Int) < (d.2.length : Int) := by omega
   simp only [Z0m, Z1t, h1, decide_true, cond_true, Y0 (j := i) (by omega)]
   rw [Y38 h hl hvb hN hi _ (by omega)]) (k := N) (j := 0) (out := []) (by omega) (by omega) (by omega) (by simp only [List.length_nil]; omega)
  rw [show ((0 : Nat) : Int) = 0 from rfl] at this
  rw [this, Option.bind_some, List.nil_append, Nat.sub_zero, <- List.range_eq_range']
  rfl
theorem Y25 (s : List Int) (v : Int) : (s.any fun x => decide (v = x)) = decide (v ∈ s) := by
 induction s with
 | nil => rfl
 | cons x s ih => simp only [List.any_cons, ih, List.mem_cons, Bool.decide_or]
theorem Y1p {s : List Int} {v : Int} (hs : s.length <= 1048576) (hN : 1048576 < N) : Z8 N s v = some (decide (v ∈ s)) := by
 unfold Z8 Z20 Z4r
 rw [Ys (d := (0 : Int)) (xs := s) (p := fun x => decide (v = x)) (first (n := s.length) (fun j => decide (v = s.getD j 0)) (fun k i => Z1k N k s v (s.length : Int) i) (fun k => by simp [Z1k, Z2r]) (fun k j hj => ?_) (by omega)), Y25]
 have h1 : (j : Int) < (s.length : Int) := by omega
 simp only [Z1k, Z2r, h1, decide_true, cond_true, Y1 hj, grd_true, Y3 hj, Y2 hj, Y0 (j := j) (by omega), beqI]
 cases decide (v = s[j]) <;> rfl
theorem Y1q {s : List Int} {v : Int} (hs : s.length <= 1048576) (hN : 1048576 < N) : Z2s N s v = some (decide (v ∈ s)) := by
 unfold Z2s Z8h
 rw [Ya (n := s.length) (fun j => !decide (s.getD j 0 = v)) (some true) (some false) (fun k i => Z4w N k s v i) (fun k => by simp [Z4w, Z64]) (fun k j hj => ?_) (by omega)]
 ·by_cases h : v ∈ s
  ·rw [decide_eq_true h]
   obtain ⟨j, hj, rfl⟩ := List.mem_iff_getElem.1 h
   rw [if_neg (fun h' => by have := h' j hj; rw [Y2 hj] at this; simp at this)]
  ·rw [decide_eq_false h, if_pos (fun j hj => by
    rw [Y2 hj]
    have : ¬ s[j] = v := fun e => h (e ▸ List.getElem_mem hj)
    simp [this])]
 ·have h1 : (j : Int) < (s.length : Int) := by omega
  simp only [Z4w, Z64, h1, decide_true, cond_true, Y1 hj, grd_true, Y3 hj, Y2 hj, Y0 (j := j) (by omega), beqI]
  cases decide (s[j] = v) <;> simp
structure Good (n : Int) (c : List Int) : Prop where
 lit : ∀ x ∈ c, x ≠ 0 /\ -n <= x /\ x <= n
 one : c.Pairwise fun x y => x ≠ y /\ x ≠ -y
theorem Y26 : ∀ (n : Nat) (l : List Nat), l.Nodup -> (∀ x ∈ l, 1 <= x /\ x <= n) -> l.length <= n
 | 0, l, _, h => by
  cases l with
  | nil => simp
  | cons x l => have := h x (by simp); omega
 | n + 1, l, hn, h => by
  have := Y26 n (l.erase (n + 1)) (hn.erase _) (fun x hx => by
   have h1 := (hn.mem_erase_iff).1 hx
   have := h x h1.2
   have := h1.1
   omega)
  rw [List.length_erase] at this
  split at this <;> omega
theorem Good.few {n : Int} {c : List Int} (h0 : 0 <= n) (h : Good n c) : (c.length : Int) <= n := by
 have := Y26 n.toNat (c.map Int.natAbs) (by
  unfold List.Nodup
  rw [List.pairwise_map]
  exact h.one.imp (fun {x y} hxy e => by omega)) (fun x hx => by
  obtain ⟨y, hy, rfl⟩ := List.mem_map.1 hx
  have := h.lit y hy
  omega)
 rw [List.length_map] at this
 omega
structure EOk (n : Nat) (E : List (Int × Int)) : Prop where
 few : n <= 14
 len : E.length <= 196
 all : ∀ e ∈ E, 0 <= e.1 /\ e.1 < e.2 /\ e.2 < (n : Int)
def ordE (E : List (Int × Int)) (j : Nat) : Bool := decide (j = 0) || (let a := E.getD j (0, 0); let b := E.getD (j - 1) (0, 0); decide (b.1 < a.1) || (decide (b.1 = a.1) && decide (b.2 < a.2)))
def validE (E : List (Int × Int)) : Bool := decide (∀ j, j < E.length -> ordE E j = true)
theorem in14 {n : Nat} (h : n <= 14) : decide ((0 : Int) <= (n : Int) /\ (n : Int) <= 14) = true := decide_eq_true (by omega)
theorem Y3a {N n : Nat} {E : List (Int × Int)} (h : EOk n E) (hN : 1048576 < N) : Z1a N n E = some (validE E) := by
 have hf := h.few
 have hl := h.len
 unfold Z1a Z5t
 rw [Ya (n := E.length) (ordE E) (some false) (some true) (fun k i => Z26 N k n E i) (fun k => by simp [Z26, Z3b, l1In]; omega) (fun k j hj => ?_) (by omega)]
 ·unfold validE
  split
  ·rename_i h4; rw [decide_eq_true h4]
  ·rename_i h4; rw [decide_eq_false h4]
 ·have h1 : (j : Int) < (E.length : Int) := by omega
  have h2 := h.all _ (List.getElem_mem hj)
  have e1 : decide (0 <= E[j].1 /\ E[j].1 <= E[j].2 - 1) = true := decide_eq_true (by omega)
  have e2 : decide (0 <= E[j].2 /\ E[j].2 <= (n : Int) - 1) = true := decide_eq_true (by omega)
  simp only [Z26, Z3b, h1, decide_true, cond_true, Y1 hj, grd_true, Y3 hj, l1In, Option.bind_some, Y0 (j := j) (by omega), Y6 (x := E[j].2 - 1) (by omega) (by omega), Y6 (x := (n : Int) - 1) (by omega) (by omega), e1, e2, Bool.not_true, cond_false]
  by_cases h0 : j = 0
  ·subst h0; simp [ordE]
  ·have h3 : (j : Int) > 0 := by omega
   have h4 : j - 1 < E.length := by omega
   simp only [h3, decide_true, cond_true, Y8 (show 0 < j by omega) (by omega), Y1 h4, grd_true, Y3 h4, ordE, h0, decide_false, Bool.false_or, Y2 h4, Y2 hj, beqI]
   by_cases h5 : E[j].1 < E[j - 1].1
   ·have a1 : ¬ E[j - 1].1 < E[j].1 := by omega
    have a2 : ¬ E[j - 1].1 = E[j].1 := by omega
    simp [h5, a1, a2]
   ·by_cases h6 : E[j].1 = E[j - 1].1
    ·have a1 : ¬ E[j - 1].1 < E[j].1 := by omega
     by_cases h7 : E[j].2 <= E[j - 1].2
     ·have a2 : ¬ E[j - 1].2 < E[j].2 := by omega
      simp [h6, h7, a2]
     ·have a2 : E[j - 1].2 < E[j].2 := by omega
      simp [h6, h7, a2]
    ·have a1 : E[j - 1].1 < E[j].1 := by omega
     simp [h5, h6, a1]
theorem Y3b {N n : Nat} {E : List (Int × Int)} (h : EOk n E) (hN : 1048576 < N) : Z18 N n E = some (validE E) := by
 have hf := h.few
 have hl := h.len
 unfold Z18 Z5q
 rw [Yk, Option.bind_some, in14 hf, Bool.not_true, cond_false]
 rw [Ya (n := E.length) (ordE E) (some false) (some true) (fun k i => Z1z N k n E E (E.length : Int) i) (fun k => by simp [Z1z, Z36]) (fun k j hj => ?_) (by omega)]
 ·unfold validE
  split
  ·rename_i h4; rw [decide_eq_true h4]
  ·rename_i h4; rw [decide_eq_false h4]
 ·have h1 : (j : Int) < (E.length : Int) := by omega
  have h2 := h.all _ (List.getElem_mem hj)
  have e1 : ¬ E[j].1 < 0 := by omega
  have e2 : ¬ E[j].1 >= E[j].2 := by omega
  have e3 : ¬ E[j].2 >= (n : Int) := by omega
  simp only [Z1z, Z36, h1, decide_true, cond_true, Y1 hj, grd_true, Y3 hj, Y0 (j := j) (by omega), e1, e2, e3, decide_false, cond_false]
  by_cases h0 : j = 0
  ·subst h0; simp [ordE]
  ·have h3 : (j : Int) > 0 := by omega
   have h4 : j - 1 < E.length := by omega
   simp only [h3, decide_true, cond_true, Y8 (show 0 < j by omega) (by omega), Y1 h4, grd_true, Y3 h4, ordE, h0, decide_false, Bool.false_or, Y2 h4, Y2 hj, beqI]
   by_cases h5 : E[j - 1].1 > E[j].1
   ·have a1 : ¬ E[j - 1].1 < E[j].1 := by omega
    have a2 : ¬ E[j - 1].1 = E[j].1 := by omega
    simp [h5, a1, a2]
   ·by_cases h6 : E[j - 1].1 = E[j].1
    ·by_cases h7 : E[j - 1].2 >= E[j].2
     ·have a2 : ¬ E[j - 1].2 < E[j].2 := by omega
      simp [h6, h7, a2]
     ·have a2 : E[j - 1].2 < E[j].2 := by omega
      simp [h6, h7, a2]
    ·have a1 : E[j - 1].1 < E[j].1 := by omega
     simp [h5, h6, a1]
def indep (E : List (Int × Int)) (s : List Int) : Bool := E.all fun e => !(decide (e.1 ∈ s) && decide (e.2 ∈ s))
theorem Y3o {α : Type} {xs : List α} {p : α -> Bool} (d : α) : xs.all p = decide (∀ j, j < xs.length -> p (xs.getD j d) = true) := by
 rw [Bool.eq_iff_iff, decide_eq_true_eq, List.all_eq_true]
 constructor
 ·intro h j hj
  rw [Y2 hj]; exact h _ (List.getElem_mem hj)
 ·intro h x hx
  obtain ⟨j, hj, rfl⟩ := List.mem_iff_getElem.1 hx
  have := h j hj
  rwa [Y2 hj] at this
theorem Y1r {E : List (Int × Int)} {s : List Int} (he : E.length <= 196) (hs : s.length <= 1000) (hN : 1048576 < N) : Z0p N E s = some (indep E s) := by
 unfold Z0p Z5v indep
 rw [Y3o (0, 0), Ya (n := E.length) (fun j => !(decide ((E.getD j (0, 0)).1 ∈ s) && decide ((E.getD j (0, 0)).2 ∈ s))) (some false) (some true) (fun k i => Z27 N k E s i) (fun k => by simp [Z27, Z3c]) (fun k j hj => ?_) (by omega)]
 ·split
  ·rename_i h4; rw [decide_eq_true h4]
  ·rename_i h4; rw [decide_eq_false h4]
 ·have h1 : (j : Int) < (E.length : Int) := by omega
  simp only [Z27, Z3c, h1, decide_true, cond_true, Y1 hj, grd_true, Y3 hj, Y2 hj, Y0 (j := j) (by omega), Y1q (s := s) (by omega) hN, Option.bind_some]
  cases decide (E[j].1 ∈ s) <;> cases decide (E[j].2 ∈ s) <;> rfl
theorem Y1s {E : List (Int × Int)} {s : List Int} (he : E.length <= 196) (hs : s.length <= 1000) (hN : 1048576 < N) : Z0n N E s = some (indep E s) := by
 unfold Z0n Z2 Z3 Z0j
 rw [Ys (d := ((0, 0) : Int × Int)) (xs := E) (p := fun e => decide (e.1 ∈ s) && decide (e.2 ∈ s)) (first (n := E.length) (fun j => decide ((E.getD j (0, 0)).1 ∈ s) && decide ((E.getD j (0, 0)).2 ∈ s)) (fun k i => Z1 N k E s (E.length : Int) i) (fun k => by simp [Z1, Z6]) (fun k j hj => ?_) (by omega)), Option.bind_some]
 ·unfold indep
  rw [List.all_eq_not_any_not]
  simp
 ·have h1 : (j : Int) < (E.length : Int) := by omega
  simp only [Z1, Z6, Z21, h1, decide_true, cond_true, Y1 hj, grd_true, Y3 hj, Y2 hj, Y0 (j := j) (by omega), Y1p (s := s) (by omega) hN, Option.bind_some]
  cases decide (E[j].1 ∈ s) <;> cases decide (E[j].2 ∈ s) <;> rfl
def fitsE (E : List (Int × Int)) (s : List Int) (x : Int) : Bool := !decide (x ∈ s) && indep E (s ++ [x])
theorem Y27 {E : List (Int × Int)} {s : List Int} {x : Int} (he : E.length <= 196) (hs : s.length <= 900) (hN : 1048576 < N) : Z3o N E s x = some (fitsE E s x) := by
 unfold Z3o fitsE
 rw [Y1q (by omega) hN, Option.bind_some]
 cases decide (x ∈ s) with
 | true => rfl
 | false =>
  rw [Bool.not_false, cond_true, Y4 (by omega) (by simp only [List.length_nil]; omega), Y4 (by omega) (by simp only [List.length_singleton]; omega), Y1r he (by simp only [List.length_append, List.length_singleton]; omega) hN]
  rfl
theorem Y3p {N n : Nat} {l : List Int} (hn : n <= 1048576) (hl : l.length <= 1048576) (hN : 1048576 < N) : Z5u N n l = some (validSet n l) := by
 unfold Z5u Z8g
 rw [Ya (n := l.length) (fun j => decide (0 <= l.getD j 0 /\ l.getD j 0 <= (n : Int) - 1) && (decide (j = 0) || decide (l.getD (j - 1) 0 < l.getD j 0))) (some false) (some true) (fun k i => Z4v N k (n : Int) l i)
  (fun k => by simp [Z4v, Z63]) (fun k j hj => ?_) (by omega)]
 ·unfold validSet
  split
  ·rename_i h4; rw [decide_eq_true h4]
  ·rename_i h4; rw [decide_eq_false h4]
 ·have h1 : (j : Int) < (l.length : Int) := by omega
  simp only [Z4v, Z63, h1, decide_true, cond_true, Y1 hj, grd_true, Y3 hj, l1In, Option.bind_some, Y2 hj, Y0 (j := j) (by omega), Y6 (show -9223372036854775808 <= (n : Int) - 1 by omega) (by omega)]
  cases decide (0 <= l[j] /\ l[j] <= (n : Int) - 1) with
  | false => rfl
  | true =>
   simp only [Bool.not_true, cond_false, Bool.true_and]
   by_cases h0 : j = 0
   ·subst h0; simp
   ·have h3 : (j : Int) > 0 := by omega
    have h4 : j - 1 < l.length := by omega
    simp only [h3, decide_true, cond_true, Y8 (show 0 < j by omega) (by omega), Y1 h4, grd_true, Y3 h4, h0, decide_false, Bool.false_or, Y2 h4]
    by_cases h5 : l[j - 1] < l[j]
    ·have : ¬ l[j] <= l[j - 1] := by omega
     simp [h5, this]
    ·have : l[j] <= l[j - 1] := by omega
     simp [h5, this]
def maxI (n : Nat) (E : List (Int × Int)) (s : List Int) : Bool := validE E && (validSet n s && (indep E s && decide (∀ x, x < n -> (!fitsE E s x) = true)))
theorem Y2t {N n : Nat} {E : List (Int × Int)} {s : List Int} (h : EOk n E) (hs : s.length <= 900) (hN : 1048576 < N) : Z0e N n E s = some (maxI n E s) := by
 have hf := h.few
 unfold Z0e Z3v maxI
 rw [Y3a h hN, Y3p (by omega) (by omega) hN, Y1r h.len (by omega) hN, Option.bind_some, Option.bind_some, Option.bind_some]
 cases validE E with
 | false => rfl
 | true =>
  cases validSet n s with
  | false => rfl
  | true =>
   cases indep E s with
   | false => rfl
   | true =>
    simp only [Bool.not_true, cond_false, Bool.true_and]
    refine Y1x (n := n) (fun x => !fitsE E s x) (fun k i => Z13 N k n E s i) (fun k => by simp [Z13, Z1y]) (fun k j hj => ?_) (by omega)
    have h1 : (j : Int) < (n : Int) := by omega
    simp only [Z13, Z1y, h1, decide_true, cond_true, Y27 h.len hs hN, Option.bind_some, Y0 (j := j) (by omega)]
    cases fitsE E s j <;> simp
theorem Y2u {s : List Int} (hs : s.length <= 1000) : Z2w N s = some s := by
 unfold Z2w
 rw [decide_eq_true (by omega), grd_true]
theorem Y46 {N n : Nat} {E : List (Int × Int)} {s : List Int} (h : EOk n E) (hs : s.length <= 900) (hN : 1048576 < N) : Z10 N n E s = some (maxI n E s) := by
 have hf := h.few
 unfold Z10 Z3t Z22 maxI
 rw [Y3b h hN, Y2q (by omega) (by omega) hN, Y1s h.len (by omega) hN, Option.bind_some, Option.bind_some, Option.bind_some]
 cases validE E with
 | false => rfl
 | true =>
  cases validSet n s with
  | false => rfl
  | true =>
   cases indep E s with
   | false => rfl
   | true =>
    simp only [Bool.not_true, cond_false, cond_true, Option.bind_some, Bool.true_and]
    refine Y1x (n := n) (fun x => !fitsE E s x) (fun k i => Z12 N k E s n i) (fun k => by simp [Z12, Z1x]) (fun k j hj => ?_) (by omega)
    have h1 : (j : Int) < (n : Int) := by omega
    simp only [Z12, Z1x, h1, decide_true, cond_true, Y1p (s := s) (by omega) hN, Option.bind_some, Y0 (j := j) (by omega), Y2u (N := N) (s := s) (by omega)]
    rw [Y4 (by omega) (by simp only [List.length_singleton]; omega), grd_true, Y1s h.len (by simp only [List.length_append, List.length_singleton]; omega) hN, Option.bind_some]
    unfold fitsE
    cases decide ((j : Int) ∈ s) <;> cases indep E (s ++ [(j : Int)]) <;> simp
def walk (n : Nat) (E : List (Int × Int)) : Nat -> List Int -> Nat -> List (List Int)
 | 0, s, x => if maxI n E s then [s] else []
 | m + 1, s, x => (if indep E (s ++ [(x : Int)]) then walk n E m (s ++ [(x : Int)]) (x + 1) else []) ++ walk n E m s (x + 1)
theorem Yf {n : Nat} {E : List (Int × Int)} : ∀ (m : Nat) (s : List Int) (x : Nat), (walk n E m s x).length <= 2 ^ m
 | 0, s, x => by simp only [walk]; split <;> simp
 | m + 1, s, x => by
  have h1 := Yf (n := n) (E := E) m (s ++ [(x : Int)]) (x + 1)
  have h2 := Yf (n := n) (E := E) m s (x + 1)
  simp only [walk, List.length_append, Nat.pow_succ]
  split
  ·omega
  ·simp only [List.length_nil]; omega
theorem Y1d {n : Nat} {E : List (Int × Int)} : ∀ (m : Nat) (s : List Int) (x : Nat), s.length <= x -> ∀ r ∈ walk n E m s x, r.length <= x + m
 | 0, s, x, hs, r, hr => by
  simp only [walk] at hr
  split at hr
  ·simp only [List.mem_singleton] at hr; subst hr; omega
  ·simp at hr
 | m + 1, s, x, hs, r, hr => by
  simp only [walk, List.mem_append] at hr
  rcases hr with hr | hr
  ·split at hr
   ·have := Y1d m (s ++ [(x : Int)]) (x + 1) (by simp; omega) r hr
    omega
   ·simp at hr
  ·have := Y1d m s (x + 1) (by omega) r hr
   omega
def touch (x : Int) (e : Int × Int) : Bool := decide (e.1 = x) || decide (e.2 = x)
theorem Y2w {E : List (Int × Int)} {s : List Int} {y : Int} (h : E.any (touch y) = false) (hi : indep E s = true) : indep E (s ++ [y]) = true := by
 unfold indep at *
 rw [List.all_eq_true] at *
 intro e he
 have h1 := hi e he
 have h2 : ¬ (touch y e = true) := fun h3 => by
  have : E.any (touch y) = true := List.any_eq_true.2 ⟨e, he, h3⟩
  rw [h] at this; exact absurd this (by decide)
 have h3 : e.1 ≠ y /\ e.2 ≠ y := by
  simp only [touch, Bool.or_eq_true, decide_eq_true_eq, not_or] at h2
  exact h2
 have m1 : (e.1 ∈ s ++ [y]) ↔ e.1 ∈ s := by simp [h3.1]
 have m2 : (e.2 ∈ s ++ [y]) ↔ e.2 ∈ s := by simp [h3.2]
 simp only [m1, m2]
 exact h1
theorem Y15 {n : Nat} {E : List (Int × Int)} {y : Nat} (hy : y < n) (h : E.any (touch y) = false) : ∀ (m : Nat) (s : List Int) (x : Nat), y < x -> (y : Int) ∉ s -> walk n E m s x = []
 | 0, s, x, hx, hs => by
  simp only [walk]
  rw [if_neg]
  intro hm
  simp only [maxI, Bool.and_eq_true, decide_eq_true_eq] at hm
  have := hm.2.2.2 y hy
  rw [fitsE, decide_eq_false hs, Y2w h hm.2.2.1] at this
  simp at this
 | m + 1, s, x, hx, hs => by
  simp only [walk]
  rw [Y15 hy h m s (x + 1) (by omega) hs, List.append_nil]
  split
  ·exact Y15 hy h m _ (x + 1) (by omega) (by simp only [List.mem_append, List.mem_singleton, not_or]; exact ⟨hs, by omega⟩)
  ·rfl
theorem Y16 {N : Nat} {E : List (Int × Int)} (he : E.length <= 196) (Rf : Int -> List (Int × Int) -> List Int -> Int -> Option (List (List Int))) (n : Int) (s : List Int) (x : Nat) (hx : x <= 1000) (out : List (List Int)) :
  ∀ {f j : Nat} {met : Bool}, E.length - j < f -> j <= E.length -> Z3l N Rf f n E s x out met (j : Int) = bif met || (E.drop j).any (touch x) then ((Rf n E s ((x + 1 : Nat) : Int)).bind fun r4 => grd (appOk out r4 24) <| some (out ++ r4)) else some out
 | 0, j, met, hf, hj => by omega
 | f + 1, j, met, hf, hj => by
  by_cases h : j < E.length
  ·have e1 : (j : Int) < (E.length : Int) := by omega
   simp only [Z3l, Z5w, e1, decide_true, cond_true, Y1 h, grd_true, Y3 h, Y0 (j := j) (by omega)]
   rw [Y1c h]
   cases met with
   | true => rw [cond_true, Y16 he Rf n s x hx out (by omega) h]; rfl
   | false =>
    rw [cond_false, beqI, beqI]
    unfold touch
    cases decide (E[j].1 = (x : Int)) with
    | true => rw [cond_true, Y16 he Rf n s x hx out (by omega) h]; rfl
    | false =>
     rw [cond_false, Y16 he Rf n s x hx out (by omega) h]
     simp only [Bool.false_or]
     rfl
  ·have : j = E.length := by omega
   subst this
   simp only [Z3l, Z5w, Int.lt_irrefl, decide_false, cond_false, List.drop_length, List.any_nil, Bool.or_false, Y0 (j := x) (by omega)]
theorem Y2x {m : Nat} (h : m <= 14) : 2 ^ m <= 16384 := Nat.pow_le_pow_right (n := 2) (by decide) h
theorem Y1e {N n : Nat} {E : List (Int × Int)} (h : EOk n E) (hN : 1048576 < N) : ∀ (m f : Nat) (s : List Int) (x : Nat), m < f -> x + m = n -> s.length <= x -> (∀ y ∈ s, y < (x : Int)) -> Z2f N f n E s x = some (walk n E m s x)
 | _, 0, _, _, hf, _, _, _ => by omega
 | 0, f + 1, s, x, hf, hx, hl, hs => by
  have hn := h.few
  obtain rfl : x = n := by omega
  simp only [Z2f, Z6w, beqI, decide_true, cond_true, Y2t h (s := s) (by omega) hN, Option.bind_some, walk]
  cases maxI x E s with
  | true => rw [cond_true, Y4 (by omega) (by simp only [List.length_nil]; omega)]; rfl
  | false => rfl
 | m + 1, f + 1, s, x, hf, hx, hl, hs => by
  have hn := h.few
  have hne : ¬ (x : Int) = (n : Int) := by omega
  have hxs : (x : Int) ∉ s := fun hm => by have := hs _ hm; omega
  have i1 := Y1e h hN m f (s ++ [(x : Int)]) (x + 1) (by omega) (by omega) (by simp; omega) (fun y hy => by
   simp only [List.mem_append, List.mem_singleton] at hy
   rcases hy with hy | hy
   ·have := hs y hy; omega
   ·omega)
  have i2 := Y1e h hN m f s (x + 1) (by omega) (by omega) (by omega) (fun y hy => by have := hs y hy; omega)
  have p1 := Yf (n := n) (E := E) m (s ++ [(x : Int)]) (x + 1)
  have p2 := Yf (n := n) (E := E) m s (x + 1)
  have p3 := Y2x (m := m) (by omega)
  have fin : ∀ out : List (List Int), out.length <= 16384 -> Z3l N (Z2f N f) N n E s x out false 0 = some (out ++ walk n E m s (x + 1)) := by
   intro out ho
   have := Y16 (N := N) h.len (Z2f N f) n s x (by omega) out (f := N) (j := 0) (met := false) (by have := h.len; omega) (by omega)
   rw [show ((0 : Nat) : Int) = 0 from rfl] at this
   rw [this, List.drop_zero, Bool.false_or, i2, Option.bind_some, Y4 (by omega) (by omega), grd_true]
   cases ht : E.any (touch x) with
   | true => rfl
   | false => rw [cond_false, Y15 (by omega) ht m s (x + 1) (by omega) hxs, List.append_nil]
  simp only [Z2f, Z6w, beqI, decide_eq_false hne, cond_false, Y27 h.len (show s.length <= 900 by omega) hN, Option.bind_some, fitsE, decide_eq_false hxs, Bool.not_false, Bool.true_and, walk]
  cases indep E (s ++ [(x : Int)]) with
  | true =>
   rw [cond_true, Y4 (by omega) (by simp only [List.length_nil]; omega), Y4 (by omega) (by simp only [List.length_singleton]; omega), grd_true, grd_true, Y0 (by omega), i1, Option.bind_some, fin _ (by omega)]
   rfl
  | false =>
   rw [cond_false, fin [] (by simp)]
   rfl
theorem Yy {N n : Nat} {E : List (Int × Int)} (h : EOk n E) (hN : 1048576 < N) : ∀ (m f : Nat) (s : List Int) (x : Nat) (out : List (List Int)), m < f -> x + m = n -> s.length <= x -> out.length + 2 ^ m <= 100000 -> Z0h N f x s n E out n E = some (out ++ walk n E m s x)
 | _, 0, _, _, _, hf, _, _, _ => by omega
 | 0, f + 1, s, x, out, hf, hx, hl, ho => by
  have hn := h.few
  obtain rfl : x = n := by omega
  simp only [Z0h, Z1u, beqI, decide_true, cond_true, Y46 h (s := s) (by omega) hN, Option.bind_some, walk]
  cases maxI x E s with
  | true => rw [cond_true, Y4 (by omega) (by simp only [List.length_nil]; omega), Y4 (by omega) (by simp only [List.length_singleton]; omega)]; rfl
  | false => simp
 | m + 1, f + 1, s, x, out, hf, hx, hl, ho => by
  have hn := h.few
  have hne : ¬ (x : Int) = (n : Int) := by omega
  rw [Nat.pow_succ] at ho
  have p1 := Yf (n := n) (E := E) m (s ++ [(x : Int)]) (x + 1)
  simp only [Z0h, Z1u, beqI, decide_eq_false hne, cond_false, Y2u (N := N) (s := s) (by omega), Option.bind_some]
  rw [Y4 (by omega) (by simp only [List.length_singleton]; omega), grd_true, Y1s h.len (by simp only [List.length_append, List.length_singleton]; omega) hN, Option.bind_some, Y0 (by omega)]
  simp only [walk]
  cases indep E (s ++ [(x : Int)]) with
  | true =>
   rw [cond_true, Yy h hN m f (s ++ [(x : Int)]) (x + 1) out (by omega) (by omega) (by simp; omega) (by omega), Option.bind_some, Yy h hN m f s (x + 1) _ (by omega) (by omega) (by omega) (by rw [List.length_append]; omega), Option.bind_some, List.append_assoc]
   rfl
  | false =>
   rw [cond_false, Yy h hN m f s (x + 1) out (by omega) (by omega) (by omega) (by omega), Option.bind_some]
   rfl
theorem Y1f {d : Db} {l : List Con} (hv : ValidDb d) : EOk d.2.length (edgesOf d l) := by
 refine ⟨hv.few, Y1u hv l, fun e he => ?_⟩
 unfold edgesOf at he
 obtain ⟨i, hi, he⟩ := List.mem_flatMap.1 he
 unfold edgeR at he
 obtain ⟨k, hk, he⟩ := List.mem_flatMap.1 he
 unfold edgeP at he
 have h1 := List.mem_range.1 hi
 have h2 := List.mem_range'.1 hk
 obtain ⟨q, h3, h4⟩ := h2
 split at he
 ·simp only [List.mem_singleton] at he
  subst he
  simp only
  omega
 ·simp at he
def maxSets (n : Nat) (E : List (Int × Int)) : List (List Int) := if validE E then walk n E n [] 0 else []
theorem Y3q {N n : Nat} {E : List (Int × Int)} (h : EOk n E) (hN : 1048576 < N) : Z0q N n E = some (maxSets n E) := by
 have hn := h.few
 unfold Z0q Z5z maxSets
 rw [Y3a h hN, Option.bind_some]
 cases validE E with
 | false => rfl
 | true =>
  have := Y1e h hN n N [] 0 (by omega) (by omega) (by simp) (by simp)
  rw [show ((0 : Nat) : Int) = 0 from rfl] at this
  rw [Bool.not_true, cond_false, this]
  rfl
theorem Y3r {N n : Nat} {E : List (Int × Int)} (h : EOk n E) (hN : 1048576 < N) : Z0o N n E = some (maxSets n E) := by
 have hn := h.few
 have p := Y2x hn
 unfold Z0o Z0t maxSets
 rw [Y3b h hN, Option.bind_some]
 cases validE E with
 | false => rfl
 | true =>
  have := Yy h hN n N [] 0 [] (by omega) (by omega) (by simp) (by simp only [List.length_nil]; omega)
  rw [show ((0 : Nat) : Int) = 0 from rfl] at this
  rw [Bool.not_true, cond_false, this]
  rfl
def subsets (d : Db) (l : List Con) : List (List Int) := if validDb d then maxSets d.2.length (edgesOf d l) else []
theorem Y2e {d : Db} {l : List Con} (h : SmallDb d) (hl : l.length <= 1048576) (hN : 1048576 < N) : Z2c N d l = some (subsets d l) := by
 unfold Z2c subsets
 rw [Ym h hN, Option.bind_some]
 cases hv : validDb d with
 | false => rfl
 | true =>
  rw [Bool.not_true, cond_false, Y1v h hl hN, Option.bind_some, hv, if_pos rfl, Y3q (Y1f (Y7 hv)) hN]
  rfl
theorem Y2f {d : Db} {l : List Con} (h : SmallDb d) (hl : l.length <= 1048576) (hN : 1048576 < N) : Z2a N d l = some (subsets d l) := by
 unfold Z2a subsets
 rw [Y1k h hN, Option.bind_some]
 cases hv : validDb d with
 | false => rfl
 | true =>
  rw [Bool.not_true, cond_false, Y39 h hl hN, Option.bind_some, hv, if_pos rfl, Y3r (Y1f (Y7 hv)) hN]
  rfl
theorem Yv (d : Db) (l : List Con) : (subsets d l).length <= 16384 /\ ∀ r ∈ subsets d l, r.length <= 14 := by
 unfold subsets
 by_cases hv : validDb d = true
 ·rw [if_pos hv]
  have hn := (Y7 hv).few
  unfold maxSets
  split
  ·refine ⟨Nat.le_trans (Yf _ _ _) (Y2x hn), fun r hr => ?_⟩
   have := Y1d d.2.length [] 0 (by simp) r hr
   omega
  ·exact ⟨by simp, by simp⟩
 ·rw [if_neg hv]; exact ⟨by simp, by simp⟩
theorem Y2g {n : Nat} {l : List Int} (hs : l.Pairwise (· < ·)) (hin : ∀ x ∈ l, 0 <= x /\ x < (n : Int)) : validSet n l = true := by
 unfold validSet
 rw [decide_eq_true_eq]
 intro j hj
 have h1 := hin _ (List.getElem_mem hj)
 rw [Bool.and_eq_true, decide_eq_true_eq, Y2 hj]
 refine ⟨by omega, ?_⟩
 by_cases h0 : j = 0
 ·simp [h0]
 ·have h4 : j - 1 < l.length := by omega
  rw [Y2 h4, decide_eq_true (List.pairwise_iff_getElem.1 hs (j - 1) j h4 hj (by omega)), Bool.or_true]
theorem Ye {n : Nat} {l : List Int} (h : validSet n l = true) : l.Pairwise (· < ·) := by
 have step : ∀ j (hj : j < l.length), 0 < j -> l[j - 1]'(by omega) < l[j] := by
  intro j hj h0
  have := of_decide_eq_true h j hj
  rw [Bool.and_eq_true, Bool.or_eq_true, decide_eq_true_eq, decide_eq_true_eq, decide_eq_true_eq, Y2 hj, Y2 (show j - 1 < l.length by omega)] at this
  rcases this.2 with h1 | h1
  ·omega
  ·exact h1
 rw [List.pairwise_iff_getElem]
 intro i j hi hj hij
 induction j with
 | zero => omega
 | succ j ih =>
  have hs := step (j + 1) hj (by omega)
  simp only [Nat.add_sub_cancel] at hs
  by_cases e : i = j
  ·subst e; exact hs
  ·have := ih (by omega) (by omega)
   omega
theorem Yz {n : Nat} {E : List (Int × Int)} : ∀ (m : Nat) (s : List Int) (x : Nat), ∀ r ∈ walk n E m s x, validSet n r = true
 | 0, s, x, r, hr => by
  simp only [walk] at hr
  split at hr
  ·rename_i hm
   simp only [List.mem_singleton] at hr
   subst hr
   simp only [maxI, Bool.and_eq_true] at hm
   exact hm.2.1
  ·simp at hr
 | m + 1, s, x, r, hr => by
  simp only [walk, List.mem_append] at hr
  rcases hr with hr | hr
  ·split at hr
   ·exact Yz m _ _ r hr
   ·simp at hr
  ·exact Yz m _ _ r hr
theorem Y1t (d : Db) (l : List Con) : ∀ r ∈ subsets d l, r.Pairwise (· < ·) := by
 intro r hr
 unfold subsets at hr
 by_cases hv : validDb d = true
 ·rw [if_pos hv] at hr
  unfold maxSets at hr
  split at hr
  ·exact Ye (Yz _ _ _ r hr)
  ·simp at hr
 ·rw [if_neg hv] at hr; simp at hr
def common (s A : List Int) : Nat := (s.filter fun x => decide (x ∈ A)).length
theorem Y2h {s A : List Int} (hs : s.Pairwise (· < ·)) (hA : A.Pairwise (· < ·)) : common s A = common A s := by
 unfold common
 rw [Y1l (a := s.filter fun x => decide (x ∈ A)) (b := A.filter fun x => decide (x ∈ s)) (hs.filter _) (hA.filter _) fun x => by
  simp only [List.mem_filter, decide_eq_true_eq]
  exact And.comm]
theorem Y28 (A : List Int) (p : Int -> Bool) : (A.filter p).length + (A.filter fun x => !p x).length = A.length := by
 induction A with
 | nil => rfl
 | cons x A ih =>
  simp only [List.filter_cons, List.length_cons]
  cases p x <;> simp <;> omega
def bestStep (s : List Int) (b : Int × List Int) (A : List Int) : Int × List Int := if (common s A : Int) > b.1 then ((common s A : Int), A) else b
def closest (d : Db) (l : List Con) (s : List Int) : List Int × Bool :=
 if validSet d.2.length s then (((subsets d l).foldl (bestStep s) (-1, [])).2, decide (((subsets d l).foldl (bestStep s) (-1, [])).1 >= 0)) else ([], false)
theorem Y2v (s : List Int) : ∀ (L : List (List Int)) (b : Int × List Int), (L.foldl (bestStep s) b).2 = b.2 \/ (L.foldl (bestStep s) b).2 ∈ L
 | [], b => .inl rfl
 | A :: L, b => by
  rw [List.foldl_cons]
  rcases Y2v s L (bestStep s b A) with h | h
  ·rw [h]
   unfold bestStep
   split
   ·right; simp
   ·left; rfl
  ·right; simp [h]
theorem Y2i (d : Db) (l : List Con) (s : List Int) : (closest d l s).1.length <= 14 := by
 unfold closest
 split
 ·rcases Y2v s (subsets d l) (-1, []) with h | h
  ·rw [h]; simp
  ·exact (Yv d l).2 _ h
 ·simp
theorem Y3c {d : Db} {s : List Int} {best : Int} {out : List Int} {all : List (List Int)} {i : Nat} (hi : i < all.length) (ha : (all[i]).length <= 14) (hs : s.length <= 1048576) (hN : 1048576 < N) (R : List Int -> List (ByteArray × Int × Int) -> List (Int × List Int) -> Int -> List Int -> List (List Int) -> Int -> Option (List Int × Bool)) :
  Z28 R N N s d.1 d.2 best out all (i : Int) 0 0 = R s d.1 d.2 (bestStep s (best, out) all[i]).1 (bestStep s (best, out) all[i]).2 all (w64 ((i : Int) + 1)) := by
 have := loop (fun k (q : Nat) => Z28 R N k s d.1 d.2 best out all (i : Int) (common (s.take q) all[i] : Int) (q : Int)) (fun q => q <= s.length) (fun q => s.length - q) (fun o => o = R s d.1 d.2 (bestStep s (best, out) all[i]).1 (bestStep s (best, out) all[i]).2 all (w64 ((i : Int) + 1))) (fun k q hq' => by
  simp only [Z28, Z4s]
  by_cases hq : q < s.length
  ·right
   refine ⟨q + 1, hq, by omega, ?_⟩
   have e1 : (q : Int) < (s.length : Int) := by omega
   have hc : common (s.take q) all[i] <= 1048576 := by
    have := List.length_filter_le (fun x => decide (x ∈ all[i])) (s.take q)
    rw [List.length_take] at this
    unfold common
    omega
   simp only [e1, decide_true, cond_true, Y1 hi, grd_true, Y3 hi, Y1 hq, Y3 hq, Y1q (s := all[i]) (by omega) hN, Option.bind_some, Y0 (j := q) (by omega)]
   have e2 : common (s.take (q + 1)) all[i] = common (s.take q) all[i] + (if s[q] ∈ all[i] then 1 else 0) := by
    unfold common
    rw [List.take_succ_eq_append_getElem hq, List.filter_append, List.length_append]
    by_cases hm : s[q] ∈ all[i] <;> simp [hm]
   by_cases hm : s[q] ∈ all[i]
   ·rw [decide_eq_true hm, cond_true, Y0 (by omega), e2, if_pos hm]
   ·rw [decide_eq_false hm, cond_false, e2, if_neg hm]
    rfl
  ·left
   have : q = s.length := by omega
   subst this
   simp only [Int.lt_irrefl, decide_false, cond_false, Y1 hi, grd_true, Y3 hi, List.take_length]
   unfold bestStep
   by_cases hb : (common s all[i] : Int) > best
   ·rw [decide_eq_true hb, cond_true, if_pos hb, Y4 (by omega) (by simp only [List.length_nil]; omega), grd_true]
   ·rw [decide_eq_false hb, cond_false, if_neg hb]) N 0 (by omega) (by omega)
 exact this
theorem Y2j {d : Db} {l : List Con} {s : List Int} (h : SmallDb d) (hl : l.length <= 1048576) (hs : s.length <= 1048576) (hN : 1048576 < N) : Z2d N d l s = some (closest d l s) := by
 obtain ⟨f1, f2⟩ := Yv d l
 unfold Z2d Z5x
 rw [Y2e h hl hN, Option.bind_some]
 unfold closest
 generalize subsets d l = L at *
 cases hv : validSet d.2.length s with
 | false =>
  obtain ⟨M, rfl⟩ : ∃ M, N = M + 1 := ⟨N - 1, by omega⟩
  have e := Y2p (N := M + 1) (l := s) h hs hN
  have e : Z4b (M + 1) (d.1, d.2) s = some (validSet d.2.length s) := e
  simp only [Z1l, Z3d, e, hv, Option.bind_some, cond_false]
  cases decide ((0 : Int) < (L.length : Int)) <;> rfl
 | true =>
  rw [if_pos rfl]
  have := loop (fun k (j : Nat) => Z1l N k s d.1 d.2 ((L.take j).foldl (bestStep s) (-1, [])).1 ((L.take j).foldl (bestStep s) (-1, [])).2 L (j : Int)) (fun j => j <= L.length) (fun j => L.length - j) (fun o => o = some ((L.foldl (bestStep s) (-1, [])).2, decide ((L.foldl (bestStep s) (-1, [])).1 >= 0))) (fun k j hj' => by
   simp only [Z1l, Z3d]
   by_cases hj : j < L.length
   ·right
    refine ⟨j + 1, hj, by omega, ?_⟩
    have e1 : (j : Int) < (L.length : Int) := by omega
    have e : Z4b N (d.1, d.2) s = some (validSet d.2.length s) := Y2p (l := s) h hs hN
    simp only [e1, decide_true, cond_true, e, hv, Option.bind_some]
    rw [Y3c (d := d) hj (f2 _ (List.getElem_mem hj)) hs hN, Y0 (by omega), List.take_succ_eq_append_getElem hj, List.foldl_append]
    rfl
   ·left
    have : j = L.length := by omega
    subst this
    simp only [Int.lt_irrefl, decide_false, cond_false, List.take_length]) N 0 (by omega) (by omega)
  exact this
theorem Y18 {A s : List Int} (hA : A.length <= 14) (hs : s.length <= 1048576) (hN : 1048576 < N) : Z3u N A s = some (A.filter fun x => !decide (x ∈ s)) := by
 unfold Z3u Z7t
 have e : (A.filter fun x => !decide (x ∈ s)) = A.flatMap fun x => if decide (x ∈ s) then [] else [x] := by
  induction A with
  | nil => rfl
  | cons x A ih =>
   rw [List.filter_cons, List.flatMap_cons, <- ih (by simp at hA; omega)]
   by_cases hm : x ∈ s <;> simp [hm]
 rw [e]
 refine Y41 (a := A) (fun x => if decide (x ∈ s) then [] else [x]) (f := fun k o i => Z3y N k s o A (A.length : Int) i) (fun x _ => by split <;> simp) (fun k o => by simp [Z3y, Z58]) (fun k o j hj ho => ?_) (by omega)
 have h1 : (j : Int) < (A.length : Int) := by omega
 simp only [Z3y, Z58, h1, decide_true, cond_true, Y1 hj, grd_true, Y3 hj, Y1p hs hN, Option.bind_some, Y0 (j := j) (by omega)]
 by_cases hm : A[j] ∈ s
 ·simp [hm]
 ·rw [decide_eq_false hm, Bool.not_false, cond_true, Y4 (by omega) (by simp only [List.length_singleton]; omega), grd_true]
  rfl
theorem Y1w {A s : List Int} (hA : A.length <= 14) (h1 : s.Pairwise (· < ·)) (h2 : A.Pairwise (· < ·)) : w64 ((A.length : Int) - ((A.filter fun x => !decide (x ∈ s)).length : Int)) = (common s A : Int) := by
 have e := Y28 A fun x => decide (x ∈ s)
 have e2 : common s A = (A.filter fun x => decide (x ∈ s)).length := Y2h h1 h2
 have e3 := List.length_filter_le (fun x => !decide (x ∈ s)) A
 rw [Y6 (by omega) (by omega), e2]
 omega
theorem Y29 {N : Nat} {s : List Int} {L : List (List Int)} (hs : s.length <= 1048576) (h1 : s.Pairwise (· < ·)) (hL : L.length <= 16384) (f2 : ∀ r ∈ L, r.length <= 14) (f3 : ∀ r ∈ L, r.Pairwise (· < ·)) (hN : 1048576 < N) : ∀ (f j : Nat) (outi : Int) (b : Int × List Int), L.length - j < f -> j <= L.length -> Z23 N f s outi b.2 b.1 L (L.length : Int) (j : Int) = some (((L.drop j).foldl (bestStep s) b).2, decide (((L.drop j).foldl (bestStep s) b).1 >= 0))
 | 0, j, outi, b, hf, hj => by omega
 | f + 1, j, outi, b, hf, hj' => by
  by_cases hj : j < L.length
  ·have e1 : (j : Int) < (L.length : Int) := by omega
   have hm := List.getElem_mem hj
   have hw := Y18 (f2 _ hm) hs hN
   have hc := Y1w (f2 _ hm) h1 (f3 _ hm)
   simp only [Z23, Z37, e1, decide_true, cond_true, Y1 hj, grd_true, Y3 hj, hw, Option.bind_some, hc, Y0 (j := j) (by omega)]
   rw [List.drop_eq_getElem_cons hj, List.foldl_cons]
   by_cases hb : (common s L[j] : Int) > b.1
   ·have eb : bestStep s b L[j] = ((common s L[j] : Int), L[j]) := by unfold bestStep; rw [if_pos hb]
    rw [decide_eq_true hb, cond_true, eb]
    exact Y29 hs h1 hL f2 f3 hN f (j + 1) (j : Int) ((common s L[j] : Int), L[j]) (by omega) hj
   ·have eb : bestStep s b L[j] = b := by unfold bestStep; rw [if_neg hb]
    rw [decide_eq_false hb, cond_false, eb]
    exact Y29 hs h1 hL f2 f3 hN f (j + 1) outi b (by omega) hj
  ·have : j = L.length := by omega
   subst this
   simp only [Z23, Z37, Int.lt_irrefl, decide_false, cond_false, List.drop_length, List.foldl_nil]
theorem Y3d {N : Nat} {s : List Int} {L : List (List Int)} (hs : s.length <= 1048576) (h1 : s.Pairwise (· < ·)) (hL : L.length <= 16384) (f2 : ∀ r ∈ L, r.length <= 14) (f3 : ∀ r ∈ L, r.Pairwise (· < ·)) (hN : 1048576 < N) : ∀ (f j : Nat) (b : Int × List Int), L.length - j < f -> j <= L.length -> Z24 N f s b.2 b.1 L (L.length : Int) (j : Int) = some (((L.drop j).foldl (bestStep s) b).2, decide (((L.drop j).foldl (bestStep s) b).1 >= 0))
 | 0, j, b, hf, hj => by omega
 | f + 1, j, b, hf, hj' => by
  by_cases hj : j < L.length
  ·have e1 : (j : Int) < (L.length : Int) := by omega
   have hm := List.getElem_mem hj
   have hw := Y18 (f2 _ hm) hs hN
   have hc := Y1w (f2 _ hm) h1 (f3 _ hm)
   simp only [Z24, Z38, e1, decide_true, cond_true, Y1 hj, grd_true, Y3 hj, hw, Option.bind_some, hc, Y0 (j := j) (by omega)]
   rw [List.drop_eq_getElem_cons hj, List.foldl_cons]
   by_cases hb : (common s L[j] : Int) > b.1
   ·have eb : bestStep s b L[j] = ((common s L[j] : Int), L[j]) := by unfold bestStep; rw [if_pos hb]
    rw [decide_eq_true hb, cond_true, eb]
    exact Y29 hs h1 hL f2 f3 hN f (j + 1) (j : Int) ((common s L[j] : Int), L[j]) (by omega) hj
   ·have eb : bestStep s b L[j] = b := by unfold bestStep; rw [if_neg hb]
    rw [decide_eq_false hb, cond_false, eb]
    exact Y3d hs h1 hL f2 f3 hN f (j + 1) b (by omega) hj
  ·have : j = L.length := by omega
   subst this
   simp only [Z24, Z38, Int.lt_irrefl, decide_false, cond_false, List.drop_length, List.foldl_nil]
theorem Y2k {d : Db} {l : List Con} {s : List Int} (h : SmallDb d) (hl : l.length <= 1048576) (hs : s.length <= 1048576) (hN : 1048576 < N) : Z2b N d l s = some (closest d l s) := by
 obtain ⟨f1, f2⟩ := Yv d l
 have f3 := Y1t d l
 unfold Z2b Z5r closest
 rw [Y1k h hN, Option.bind_some]
 cases hvb : validDb d with
 | false =>
  have : subsets d l = [] := by unfold subsets; rw [hvb]; rfl
  rw [this]
  cases validSet d.2.length s <;> rfl
 | true =>
  rw [Bool.not_true, cond_false, Y2q h.facts hs hN, Option.bind_some]
  cases hv : validSet d.2.length s with
  | false => rfl
  | true =>
   rw [Bool.not_true, cond_false, Y2f h hl hN, Option.bind_some, if_pos rfl]
   exact Y3d hs (Ye hv) f1 f2 f3 hN N 0 (-1, []) (by omega) (by omega)
theorem Y4m {l : List Int} {x : Int} (hl : l.length <= 1000) (hN : 1048576 < N) : Z71 N l x = some (decide (x ∈ l)) := by
 unfold Z71 Z97
 have := Yg (fun K (j : Nat) => Z6u N K l x (j : Int)) (fun j => j <= l.length /\ x ∉ l.take j) (fun j => l.length - j) (fun o => o = some (decide (x ∈ l))) (fun K j hs ih => by
  obtain ⟨h1, h2⟩ := hs
  simp only [Z6u, Z83]
  by_cases hj : j < l.length
  ·have c : (j : Int) < (l.length : Int) := by omega
   simp only [c, decide_true, cond_true, Y1 hj, grd_true, Y3 hj]
   by_cases e : l[j] = x
   ·have hm : x ∈ l := by rw [<- e]; exact List.getElem_mem hj
    simp [e, hm]
   ·have e' : (l[j] == x) = false := by simpa using e
    rw [e', cond_false, Y0 (by omega)]
    refine ih (j + 1) ⟨hj, ?_⟩ (by omega)
    rw [List.take_succ_eq_append_getElem hj]
    simp only [List.mem_append, List.mem_singleton, not_or]
    exact ⟨h2, fun h => e h.symm⟩
  ·have c : ¬ (j : Int) < (l.length : Int) := by omega
   simp only [c, decide_false, cond_false]
   rw [List.take_of_length_le (by omega)] at h2
   simp [h2]) N 0 (by omega) ⟨by omega, by simp⟩
 simpa using this
theorem Yj {E : List (Int × Int)} {s s' : List Int} (h : ∀ y ∈ s, y ∈ s') (hi : indep E s' = true) : indep E s = true := by
 unfold indep at hi ⊢
 rw [List.all_eq_true] at hi ⊢
 intro e he
 have := hi e he
 simp only [Bool.not_eq_true', Bool.and_eq_false_iff, decide_eq_false_iff_not] at this ⊢
 rcases this with h1 | h1
 ·exact .inl fun h2 => h1 (h _ h2)
 ·exact .inr fun h2 => h1 (h _ h2)
theorem grow {n : Nat} {E : List (Int × Int)} {s : List Int} (hs : ∀ y ∈ s, 0 <= y /\ y < (n : Int)) (hi : indep E s = true) : ∀ k, k <= n -> ∃ G : List Int, (∀ y ∈ s, y ∈ G) /\ (∀ y ∈ G, 0 <= y /\ y < (n : Int)) /\ indep E G = true /\ ∀ x : Nat, x < k -> (x : Int) ∈ G \/ indep E (G ++ [(x : Int)]) = false
 | 0, _ => ⟨s, fun y h => h, hs, hi, fun x hx => by omega⟩
 | k + 1, hk => by
  obtain ⟨G, g1, g2, g3, g4⟩ := grow hs hi k (by omega)
  cases hf : indep E (G ++ [(k : Int)]) with
  | false =>
   refine ⟨G, g1, g2, g3, fun x hx => ?_⟩
   by_cases e : x = k
   ·subst e; exact .inr hf
   ·exact g4 x (by omega)
  | true =>
   refine ⟨G ++ [(k : Int)], fun y hy => List.mem_append_left _ (g1 y hy), ?_, hf, ?_⟩
   ·intro y hy
    rcases List.mem_append.1 hy with h | h
    ·exact g2 y h
    ·rw [List.mem_singleton] at h; omega
   ·intro x hx
    by_cases e : x = k
    ·subst e; left; simp
    ·rcases g4 x (by omega) with h | h
     ·left; exact List.mem_append_left _ h
     ·right
      cases h2 : indep E (G ++ [(k : Int)] ++ [(x : Int)]) with
      | false => rfl
      | true =>
       have := Yj (s := G ++ [(x : Int)]) (fun y hy => by
        rcases List.mem_append.1 hy with h3 | h3
        ·exact List.mem_append_left _ (List.mem_append_left _ h3)
        ·exact List.mem_append_right _ h3) h2
       rw [h] at this
       cases this
theorem Y4h {n : Nat} {E : List (Int × Int)} {s : List Int} (hv : validE E = true) (hs : ∀ y ∈ s, 0 <= y /\ y < (n : Int)) (hi : indep E s = true) : ∃ r, maxI n E r = true /\ ∀ y ∈ s, y ∈ r := by
 obtain ⟨G, g1, g2, g3, g4⟩ := grow hs hi n (Nat.le_refl n)
 have hm : ∀ y, y ∈ ((List.range n).map (fun x : Nat => (x : Int))).filter (fun y => decide (y ∈ G)) ↔ y ∈ G := by
  intro y
  rw [List.mem_filter, decide_eq_true_eq, List.mem_map]
  constructor
  ·exact fun h => h.2
  ·intro h
   have := g2 y h
   exact ⟨⟨y.toNat, by rw [List.mem_range]; omega, by omega⟩, h⟩
 have hsort : (((List.range n).map (fun x : Nat => (x : Int))).filter (fun y => decide (y ∈ G))).Pairwise (· < ·) := by
  apply List.Pairwise.filter
  rw [List.pairwise_map]
  exact List.pairwise_lt_range.imp fun h => by omega
 refine ⟨_, ?_, fun y hy => (hm y).2 (g1 y hy)⟩
 unfold maxI
 simp only [Bool.and_eq_true, decide_eq_true_eq]
 refine ⟨hv, Y2g hsort (fun x hx => g2 x ((hm x).1 hx)), Yj (fun y hy => (hm y).1 hy) g3, fun x hx => ?_⟩
 unfold fitsE
 rcases g4 x hx with h | h
 ·simp [(hm x).2 h]
 ·have : indep E (((List.range n).map (fun x : Nat => (x : Int))).filter (fun y => decide (y ∈ G)) ++ [(x : Int)]) = false := by
   cases h2 : indep E (((List.range n).map (fun x : Nat => (x : Int))).filter (fun y => decide (y ∈ G)) ++ [(x : Int)]) with
   | false => rfl
   | true =>
    have := Yj (s := G ++ [(x : Int)]) (fun y hy => by
     rcases List.mem_append.1 hy with h3 | h3
     ·exact List.mem_append_left _ ((hm y).2 h3)
     ·exact List.mem_append_right _ h3) h2
    rw [h] at this
    cases this
  rw [this, Bool.and_false, Bool.not_false]
theorem Yd {n : Nat} {E : List (Int × Int)} {r : List Int} (h : maxI n E r = true) : validE E = true /\ validSet n r = true /\ indep E r = true := by
 unfold maxI at h
 simp only [Bool.and_eq_true] at h
 exact ⟨h.1, h.2.1, h.2.2.1⟩
theorem Y1g {n : Nat} {E : List (Int × Int)} {r : List Int} (hr : maxI n E r = true) : ∀ (m : Nat) (s t : List Int) (x : Nat), x + m = n -> r = s ++ t -> (∀ y ∈ t, (x : Int) <= y) -> r ∈ walk n E m s x
 | 0, s, t, x, hx, he, ht => by
  have : t = [] := by
   cases t with
   | nil => rfl
   | cons y t =>
    have h1 := ht y (by simp)
    obtain ⟨j, hj, e⟩ := List.getElem_of_mem (show y ∈ r by rw [he]; simp)
    have := Yu (Yd hr).2.1 hj
    omega
  subst this
  rw [List.append_nil] at he
  subst he
  simp [walk, hr]
 | m + 1, s, t, x, hx, he, ht => by
  have hsort := Ye (Yd hr).2.1
  have hts : t.Pairwise (· < ·) := by
   rw [he] at hsort
   exact (List.pairwise_append.1 hsort).2.1
  simp only [walk, List.mem_append]
  by_cases hxr : (x : Int) ∈ t
  ·cases t with
   | nil => simp at hxr
   | cons y t =>
    have hyx : y = (x : Int) := by
     rcases List.mem_cons.1 hxr with h | h
     ·exact h.symm
     ·have h1 := (List.pairwise_cons.1 hts).1 _ h
      have h2 := ht y (by simp)
      omega
    subst hyx
    left
    rw [if_pos (Yj (fun y hy => by rw [he]; rcases List.mem_append.1 hy with h | h; exact List.mem_append_left _ h; exact List.mem_append_right _ (by rw [List.mem_singleton] at h; simp [h])) (Yd hr).2.2)]
    refine Y1g hr m (s ++ [(x : Int)]) t (x + 1) (by omega) (by simp [he]) fun z hz => ?_
    have := (List.pairwise_cons.1 hts).1 _ hz
    omega
  ·right
   refine Y1g hr m s t (x + 1) (by omega) he fun y hy => ?_
   have h1 := ht y hy
   have h2 : y ≠ (x : Int) := fun e => hxr (e ▸ hy)
   omega
theorem Y1h {n : Nat} {E : List (Int × Int)} : ∀ (m : Nat) (s : List Int) (x : Nat), ∀ r ∈ walk n E m s x, maxI n E r = true
 | 0, s, x, r, hr => by
  simp only [walk] at hr
  split at hr
  ·rename_i hm
   rw [List.mem_singleton] at hr
   subst hr
   exact hm
  ·simp at hr
 | m + 1, s, x, r, hr => by
  simp only [walk, List.mem_append] at hr
  rcases hr with hr | hr
  ·split at hr
   ·exact Y1h m _ _ r hr
   ·simp at hr
  ·exact Y1h m _ _ r hr
theorem Y19 {d : Db} {l : List Con} {r : List Int} : r ∈ subsets d l ↔ validDb d = true /\ maxI d.2.length (edgesOf d l) r = true := by
 unfold subsets maxSets
 constructor
 ·intro h
  split at h
  ·rename_i hv
   split at h
   ·exact ⟨hv, Y1h _ _ _ r h⟩
   ·simp at h
  ·simp at h
 ·intro ⟨hv, hm⟩
  have hvs := (Yd hm).2.1
  rw [if_pos hv, if_pos (Yd hm).1]
  refine Y1g hm _ [] r 0 (by omega) (by simp) fun y hy => ?_
  obtain ⟨j, hj, rfl⟩ := List.getElem_of_mem hy
  have := Yu hvs hj
  omega
theorem Y3s {a : List Int} (ha : a.length <= 1048576) (hN : 1048576 < N) : Z43 N a a = some true := by
 unfold Z43 Z7i
 have h0 : ((a.length : Int) != (a.length : Int)) = false := by simp
 rw [h0, cond_false]
 have := Y1x (n := a.length) (fun _ => true) (fun k i => Z3m N k a a i) (fun k => by simp [Z3m, Z51]) (fun k j hj => by
  have h1 : (j : Int) < (a.length : Int) := by omega
  simp only [Z3m, Z51, h1, decide_true, cond_true, Y1 hj, grd_true, Y3 hj, bneI, Bool.not_true, cond_false, Y0 (j := j) (by omega), if_true]) (k := N) (by omega)
 rw [this]
 simp
theorem Y2a (s : List Int) : ∀ (L L0 : List (List Int)) (b : Int × List Int), (∀ A ∈ L0, (common s A : Int) <= b.1) -> (b.1 = -1 \/ (b.2 ∈ L0 /\ b.1 = (common s b.2 : Int))) ->
  (∀ A ∈ L0 ++ L, (common s A : Int) <= (L.foldl (bestStep s) b).1) /\ ((L.foldl (bestStep s) b).1 = -1 \/ ((L.foldl (bestStep s) b).2 ∈ L0 ++ L /\ (L.foldl (bestStep s) b).1 = (common s (L.foldl (bestStep s) b).2 : Int)))
 | [], L0, b, h1, h2 => by simpa using ⟨h1, h2⟩
 | A :: L, L0, b, h1, h2 => by
  have := Y2a s L (L0 ++ [A]) (bestStep s b A) (fun B hB => by
   rcases List.mem_append.1 hB with h | h
   ·have := h1 B h
    unfold bestStep
    split
    ·simp only; omega
    ·exact this
   ·rw [List.mem_singleton] at h
    subst h
    unfold bestStep
    split
    ·simp
    ·omega) (by
   unfold bestStep
   split
   ·right; exact ⟨by simp, rfl⟩
   ·rcases h2 with h | h
    ·left; exact h
    ·right; exact ⟨List.mem_append_left _ h.1, h.2⟩)
  simpa [List.foldl_cons] using this
theorem Y3e (s A : List Int) : common s A <= s.length := List.length_filter_le _ _
theorem Y2y {s A : List Int} (h : ∀ y ∈ s, y ∈ A) : common s A = s.length := by
 unfold common
 rw [List.filter_eq_self.2 fun y hy => by simpa using h y hy]
theorem Y2l {s A : List Int} (h : common s A = s.length) : ∀ y ∈ s, y ∈ A := by
 unfold common at h
 intro y hy
 have := List.length_filter_eq_length_iff.1 h y hy
 simpa using this
theorem Y2b {d : Db} {l : List Con} {s : List Int} (h : (closest d l s).2 = true) (hi : indep (if validDb d then edgesOf d l else []) s = true) : validDb d = true /\ maxI d.2.length (edgesOf d l) (closest d l s).1 = true /\ ∀ y ∈ s, y ∈ (closest d l s).1 := by
 unfold closest at h ⊢
 split at h
 case isFalse => simp at h
 rename_i hvs
 rw [if_pos hvs]
 simp only [decide_eq_true_eq] at h ⊢
 obtain ⟨h1, h2⟩ := Y2a s (subsets d l) [] (-1, []) (by simp) (.inl rfl)
 rw [List.nil_append] at h1 h2
 rcases h2 with h2 | ⟨h2, h3⟩
 ·omega
 obtain ⟨hv, hm⟩ := Y19.1 h2
 rw [hv, if_pos rfl] at hi
 refine ⟨hv, hm, ?_⟩
 obtain ⟨r, r1, r2⟩ := Y4h (n := d.2.length) (Yd hm).1 (fun y hy => by
  obtain ⟨j, hj, rfl⟩ := List.getElem_of_mem hy
  exact Yu hvs hj) hi
 have := h1 r (Y19.2 ⟨hv, r1⟩)
 rw [Y2y r2] at this
 have h4 := Y3e s ((subsets d l).foldl (bestStep s) (-1, [])).2
 exact Y2l (by omega)
theorem Y3f {d : Db} {s r : List Int} {e : List (Int × Int)} (hs : s.length <= 900) (hr : r.length <= 1000) (hin : ∀ y ∈ s, y ∈ r) (hm : Z0e N (d.2.length : Int) e r = some true) (hN : 1048576 < N) : laws_FnClosestRepair_l0 N N d.1 d.2 s r e 0 = some true := by
 have := Yg (fun K (j : Nat) => laws_FnClosestRepair_l0 N K d.1 d.2 s r e (j : Int)) (fun j => j <= s.length) (fun j => s.length - j) (fun o => o = some true) (fun K j hs' ih => by
  simp only [laws_FnClosestRepair_l0, laws_FnClosestRepair_l0_b]
  by_cases hj : j < s.length
  ·have c : (j : Int) < (s.length : Int) := by omega
   have hmem : s[j] ∈ r := hin _ (List.getElem_mem hj)
   simp only [c, decide_true, cond_true, Y1 hj, grd_true, Y3 hj, Y4m hr hN, Option.bind_some, hmem, Bool.not_true, cond_false]
   rw [Y0 (by omega)]
   exact ih (j + 1) hj (by omega)
  ·have c : ¬ (j : Int) < (s.length : Int) := by omega
   simp only [c, decide_false, cond_false, hm, Option.bind_some]) N 0 (by omega) (by omega)
 exact this
theorem law_FnClosestRepair (hN : 1048576 < N) {code : List Int} : laws_FnClosestRepair N code = some true := by
 unfold laws_FnClosestRepair laws_FnClosestRepair_b Z7o
 rw [Option.bind_some]
 by_cases hc : (code.length : Int) > 1048576
 ·rw [decide_eq_true hc]; rfl
 rw [decide_eq_false hc, cond_false]
 obtain ⟨d, l, s, e1, hd, hl, hs⟩ := Y2d (N := N) (code := code) (by omega) hN
 have hsm := hd.small (by omega)
 have hfew := Y2i d l s
 simp only [e1, Option.bind_some, Y2j hsm (show l.length <= 1048576 by omega) (show s.length <= 1048576 by omega) hN, Y2k hsm (show l.length <= 1048576 by omega) (show s.length <= 1048576 by omega) hN, beq_self_eq_true, Bool.not_true, cond_false, Y3s (show (closest d l s).1.length <= 1048576 by omega) hN, Y1v hsm (show l.length <= 1048576 by omega) hN]
 cases h2 : (closest d l s).2 with
 | false => rfl
 | true =>
  have hE : (if validDb d then edgesOf d l else []).length <= 196 := by
   split
   ·rename_i hv
    exact Y1u (Y7 hv) l
   ·simp
  rw [Bool.not_true, cond_false, Y1r hE (by omega) hN, Option.bind_some]
  cases hi : indep (if validDb d then edgesOf d l else []) s with
  | false => rfl
  | true =>
   obtain ⟨hv, hm, hin⟩ := Y2b h2 hi
   rw [Bool.not_true, cond_false, hv, if_pos rfl]
   refine Y3f (d := d) hs (by omega) hin ?_ hN
   rw [Y2t (Y1f (Y7 hv)) (by omega) hN, hm]
end Go.PL
