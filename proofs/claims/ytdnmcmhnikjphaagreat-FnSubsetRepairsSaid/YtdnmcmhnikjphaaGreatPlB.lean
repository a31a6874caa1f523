/- The plain law of the functions read plainly. Conditions: those that stand in each theorem. -/
import Derived.Test.YtdnmcmhnikjphaaGreatPlA
import Derived.KernelRfl

set_option linter.unusedVariables false
set_option linter.unusedSimpArgs false
set_option linter.unnecessarySimpa false

namespace Go.PL
abbrev J0 := @Option.bind_some
abbrev J1 := @cond_false
abbrev J2 := @decide_eq_true
abbrev J3 := @cond_true
abbrev J4 := @List.getElem_mem
abbrev J5 := @decide_eq_false
abbrev J6 := @decide_eq_true_eq
abbrev J7 := @List.take_succ_eq_append_getElem
abbrev J8 := @Bool.and_eq_true
abbrev J9 := @Bool.not_true
abbrev Ja := @Bool.true_and
abbrev Jb := @List.drop_eq_getElem_cons
abbrev Jc := @if_pos
abbrev Jd := @List.mem_iff_getElem
abbrev Je := @List.mem_cons
abbrev Jf := @List.append_nil
abbrev Jg := @List.mem_map
abbrev Jh := @List.all_eq_true
abbrev Ji := @List.mem_range
abbrev Jj := @Nat.le_trans
abbrev Jk := @List.pairwise_iff_getElem
abbrev Jl := @Int.toNat_natCast
abbrev Jm := @if_neg
abbrev Jn := @List.length_take
abbrev Jo := @List.length_filter_le
abbrev Jp := @List.length_map
abbrev Jq := @Bool.not_false
abbrev Jr := @List.length_range
abbrev Js := @List.take_of_length_le
abbrev Jt := @Bool.false_or
abbrev Ju := @Bool.and_false
abbrev Jv := @List.mem_filter
abbrev Jw := @List.pairwise_cons
abbrev Jx := @List.mem_append
abbrev Jy := @List.map_append
abbrev Jz := @List.length_append
abbrev J10 := @Int.lt_irrefl
abbrev J11 := @List.length_singleton
abbrev J12 := @List.length_pos_iff
abbrev J13 := @List.drop_of_length_le
abbrev J14 := @List.pairwise_lt_range
abbrev J15 := @Bool.eq_iff_iff
abbrev J16 := @List.flatMap_cons
abbrev J17 := @List.pairwise_map
abbrev J18 := @List.append_assoc
abbrev J19 := @List.take_length
abbrev J1a := @List.mem_flatMap
abbrev J1b := @Nat.le_refl
abbrev J1c := @List.mem_singleton
abbrev J1d := @Decidable.byContradiction
abbrev J1e := @Nat.pow_le_pow_right
abbrev J1f := @Bool.false_and
abbrev J1g := @List.length_filter_eq_length_iff
abbrev J1h := @List.drop_length
abbrev J1i := @List.range_succ
abbrev J1j := @List.filter_append
abbrev J1k := @List.nil_append
abbrev J1l := @Bool.eq_false_iff
abbrev J1m := @Option.some.injEq
abbrev J1n := @List.flatMap_nil
abbrev J1o := @List.reverse_reverse
abbrev J1p := @List.map_cons
abbrev J1q := @Int.le_refl
abbrev J1r := @List.map_congr_left
abbrev J1s := @List.getElem_of_mem
abbrev J1t := @List.length_nil
abbrev J1u := @List.getElem?_eq_getElem
abbrev J1v := @List.drop_zero
abbrev J1w := @Nat.mod_lt
abbrev J1x := @decide_eq_false_iff_not
abbrev J1y := @List.flatten_cons
abbrev J1z := @Bool.not_eq_true'
abbrev J20 := @List.getElem_take
abbrev J21 := @List.any_eq_true
abbrev J22 := @List.mem_reverse
abbrev J23 := @beq_self_eq_true
abbrev J24 := @List.pairwise_flatten
abbrev J25 := @List.length_replicate
abbrev J26 := @List.take_append_drop
abbrev J27 := @List.mem_of_mem_take
abbrev J28 := @List.Pairwise.filter
abbrev J29 := @Nat.mul_le_mul_right
abbrev J2a := @List.mem_cons_of_mem
abbrev J2b := @List.flatten_append
abbrev J2c := @Nat.add_sub_cancel
abbrev J2d := @List.mem_cons_self
abbrev J2e := @Bool.false_eq_true
abbrev J2f := @List.any_eq_false
abbrev J2g := @List.reverse_cons
abbrev J2h := @List.length_cons
abbrev J2i := @Bool.or_eq_true
abbrev J2j := @List.length_set
variable {N : Nat}
theorem Y5 {x : Int} (h1 : -9223372036854775808 <= x := by omega) (h2 : x <= 9223372036854775807 := by omega) : w64 x = x := by
 unfold w64 IntKind.wrap;simp [IntKind.bits, IntKind.signed];omega
theorem Y0 {j : Nat} (h : j < 4611686018427387904 := by omega) : w64 ((j : Int) + 1) = ((j + 1 : Nat) : Int) := by
 rw [Y5]; omega
@[simp] theorem grd_true {α : Type} (x : Option α) : grd true x = x := rfl
@[simp] theorem grd_false {α : Type} (x : Option α) : grd false x = none := rfl
theorem Y23 {α : Type} {b : Int} (h : b ≠ 0) (x : Option α) : grz b x = x := by simp [grz, h]
@[simp] theorem letv_eq {α β : Type} (v : α) (k : α -> β) : letv v k = k v := rfl
theorem zS : (∀ (α : Type) (x y : α), cond true x y = x) /\ (∀ (α : Type) (x y : α), cond false x y = y) /\ (∀ (α : Type) (x : Option α), grd true x = x) /\ (∀ h : Decidable True, @decide True h = true) /\ (∀ h : Decidable False, @decide False h = false) /\ (∀ (α β : Type) (x : α) (f : α -> Option β), (some x).bind f = f x) /\ ((!true) = false) /\ ((!false) = true) := ⟨fun _ _ _ => rfl, fun _ _ _ => rfl, fun _ _ => rfl, fun h => by simp, fun h => by simp, fun _ _ _ _ => rfl, rfl, rfl⟩
theorem Y7r {α : Type} (j : Nat) (xs : List α) : inb (j : Int) xs = decide (j < xs.length) := by
 simp [inb]
theorem Y1 {α : Type} {j : Nat} {xs : List α} (h : j < xs.length) : inb (j : Int) xs = true := by simp [Y7r, h]
theorem Y4 {α : Type} {d : α} {j : Nat} {xs : List α} (h : j < xs.length) : at_ d xs (j : Int) = xs[j] := by simp [at_, h]
theorem bneI (a b : Int) : (a != b) = !decide (a = b) := by grind
theorem beqI (a b : Int) : (a == b) = decide (a = b) := by grind
theorem Y7s {p : Prop} [Decidable p] {α : Type} (x y : Option α) : (bif !decide p then x else y) = if decide p then y else x := by by_cases h : p <;> simp [h]
theorem loop {σ R : Type} (f : Nat -> σ -> Option R) (I : σ -> Prop) (μ : σ -> Nat) (Q : Option R -> Prop) (hstep : ∀ k s, I s -> Q (f (k + 1) s) \/ ∃ s', I s' /\ μ s' < μ s /\ f (k + 1) s = f k s') : ∀ (k : Nat) (s : σ), μ s < k -> I s -> Q (f k s)
 | 0, s, hk, hs => by omega
 | k + 1, s, hk, hs => by
  rcases hstep k s hs with h | ⟨s', h1, h2, h3⟩
  ·exact h
  ·rw [h3];exact loop f I μ Q hstep k s' (by omega) h1
theorem Y42 {n : Nat} (p : Nat -> Bool) (f : Nat -> Int -> Option Bool) (hend : ∀ k, f (k + 1) (n : Int) = some true) (hstep : ∀ k j, j < n -> f (k + 1) (j : Int) = if p j then f k ((j + 1 : Nat) : Int) else some false) {k : Nat} (hk : n < k) : f k 0 = some (decide (∀ j, j < n -> p j = true)) := by
 have := loop (fun k (j : Nat) => f k (j : Int)) (fun j => j <= n /\ ∀ i, i < j -> p i = true) (fun j => n - j) (fun o => o = some (decide (∀ j, j < n -> p j = true))) (fun k j hs => by
  obtain ⟨h1, h2⟩ := hs;by_cases hj : j < n
  ·rw [hstep k j hj];cases hp : p j with
   | true =>
    right;exact ⟨j + 1, ⟨hj, fun i hi => by rcases Nat.lt_or_eq_of_le (Nat.le_of_lt_succ hi) with h | h; exact h2 i h; rw [h]; exact hp⟩, by omega, by simp⟩
   | false =>
    left;have : ¬ ∀ j, j < n -> p j = true := fun h => by grind
    simp [this]
  ·left;have : j = n := by omega
   subst this;rw [hend];symm;simpa using h2) k 0 (by simpa using hk) ⟨by omega, by omega⟩
 exact this
theorem Ya {R : Type} {n : Nat} (p : Nat -> Bool) (no e : Option R) (f : Nat -> Int -> Option R) (hend : ∀ k, f (k + 1) (n : Int) = e) (hstep : ∀ k j, j < n -> f (k + 1) (j : Int) = if p j then f k ((j + 1 : Nat) : Int) else no) {k : Nat} (hk : n < k) : f k 0 = if ∀ j, j < n -> p j = true then e else no := by
 have := loop (fun k (j : Nat) => f k (j : Int)) (fun j => j <= n /\ ∀ i, i < j -> p i = true) (fun j => n - j) (fun o => o = if ∀ j, j < n -> p j = true then e else no) (fun k j hs => by
  obtain ⟨h1, h2⟩ := hs;by_cases hj : j < n
  ·rw [hstep k j hj];cases hp : p j with
   | true =>
    right;exact ⟨j + 1, ⟨hj, fun i hi => by rcases Nat.lt_or_eq_of_le (Nat.le_of_lt_succ hi) with h | h; exact h2 i h; rw [h]; exact hp⟩, by omega, by simp⟩
   | false =>
    left;have : ¬ ∀ j, j < n -> p j = true := fun h => by simp_all
    simp [this]
  ·left;have : j = n := by omega
   subst this;rw [hend, Jc h2]) k 0 (by simpa using hk) ⟨by omega, by omega⟩
 exact this
theorem first {n : Nat} (p : Nat -> Bool) (f : Nat -> Int -> Option Int) (hend : ∀ k, f (k + 1) (n : Int) = some (-1)) (hstep : ∀ k j, j < n -> f (k + 1) (j : Int) = if p j then some (j : Int) else f k ((j + 1 : Nat) : Int)) {k : Nat} (hk : n < k) :
  (∃ j, j < n /\ p j = true /\ (∀ i, i < j -> p i = false) /\ f k 0 = some (j : Int)) \/ ((∀ i, i < n -> p i = false) /\ f k 0 = some (-1)) := by
 have := loop (fun k (j : Nat) => f k (j : Int)) (fun j => j <= n /\ ∀ i, i < j -> p i = false) (fun j => n - j) (fun o => (∃ j, j < n /\ p j = true /\ (∀ i, i < j -> p i = false) /\ o = some (j : Int)) \/ ((∀ i, i < n -> p i = false) /\ o = some (-1))) (fun k j hs => by
  obtain ⟨h1, h2⟩ := hs;by_cases hj : j < n
  ·rw [hstep k j hj];cases hp : p j with
   | true => grind
   | false =>
    right;exact ⟨j + 1, ⟨hj, fun i hi => by rcases Nat.lt_or_eq_of_le (Nat.le_of_lt_succ hi) with h | h; exact h2 i h; rw [h]; exact hp⟩, by omega, by simp⟩
  ·grind) k 0 (by simpa using hk) ⟨by omega, by omega⟩
 exact this
theorem Y8 {j : Nat} (h : 0 < j) (h2 : j < 4611686018427387904) : w64 ((j : Int) - 1) = ((j - 1 : Nat) : Int) := by
 rw [Y5]; omega
theorem Y9 {α : Type} {i : Int} {xs : List α} (h0 : 0 <= i) (h : i < xs.length) : inb i xs = true := by simp [inb, h0, h]
theorem Y18 {α : Type} {d : α} {i : Int} {xs : List α} (h0 : 0 <= i) (h : i < xs.length) : at_ d xs i = xs[i.toNat]'(by omega) := by
 unfold at_;rw [List.getD_eq_getElem?_getD, J1u (by omega)];rfl
abbrev Rel := ByteArray × Int × Int
abbrev Fact := Int × List Int
abbrev Db := List Rel × List Fact
structure SmallDb (d : Db) : Prop where
 rels : d.1.length <= 1048576
 facts : d.2.length <= 1048576
 vals : ∀ f ∈ d.2, f.2.length <= 1048576
theorem Y4x {α : Type} [DecidableEq α] {a b : List α} (h : a.length = b.length) : (a = b) ↔ ∀ j, j < a.length -> (decide (a[j]? = b[j]?)) = true := by
 constructor
 ·grind
 ·intro h2;apply List.ext_getElem? ;intro j;by_cases hj : j < a.length
  ·grind
  ·grind
theorem l1In (N : Nat) (x a b : Int) : Z5 N x a b = some (decide (a <= x /\ x <= b)) := by
 unfold Z5;by_cases h : a <= x <;> simp [h]
theorem Yh (N : Nat) (x a b : Int) : Z6 N x a b = some (decide (a <= x /\ x <= b)) := by
 unfold Z6;by_cases h : a <= x <;> simp [h]
def validRel (r : Rel) : Bool := (Z0a 0 r).getD false
theorem Y3a (N : Nat) (r : Rel) : Z0a N r = some (validRel r) := by
 have key : ∃ b, Z0a 0 r = some b := by
  unfold Z0a;by_cases h : r.1.size = 1
  ·have hb : ∃ b, byteAt r.1 0 = some b := by
    unfold byteAt;have : (0 : Int).toNat < r.1.size := by omega
    exact ⟨r.1[(0 : Int).toNat], by rw [Jc (by omega), getElem?_pos]⟩
   obtain ⟨b, hb⟩ := hb;rw [hb];simp only [J0, l1In];cases ((r.1.size : Int) == 1) with
   | false => exact ⟨_, rfl⟩
   | true =>
    cases decide ((b.toNat : Int) >= 97) with
    | false => exact ⟨_, rfl⟩
    | true =>
     cases decide ((b.toNat : Int) <= 122) with
     | false => exact ⟨_, rfl⟩
     | true =>
      cases decide (1 <= r.2.1 /\ r.2.1 <= 3) with
      | false => exact ⟨_, rfl⟩
      | true => exact ⟨_, rfl⟩
  ·have h0 : ((r.1.size : Int) == 1) = false := by rw [beqI]; simp; omega
   rw [h0]; exact ⟨false, rfl⟩
 obtain ⟨b, hb⟩ := key;have e : Z0a N r = Z0a 0 r := by
  unfold Z0a; simp [l1In]
 rw [e, validRel, hb]; rfl
theorem Y7t (N : Nat) (r : Rel) : Z2k N r = some (validRel r) := by
 rw [<- Y3a N r];unfold Z2k Z0a;simp [l1In, Yh]
def validRels (l : List Rel) : Bool := decide ((∀ j, j < l.length -> (validRel (l.getD j (⟨#[]⟩, 0, 0)) && (decide (j = 0) || slt (l.getD (j - 1) (⟨#[]⟩, 0, 0)).1 (l.getD j (⟨#[]⟩, 0, 0)).1)) = true) /\ l.length <= 4)
theorem Y2 {α : Type} {d : α} {j : Nat} {xs : List α} (h : j < xs.length) : xs.getD j d = xs[j] := by simp [h]
theorem Y1q {l : List Rel} (hl : l.length <= 1048576) (hN : 1048576 < N) : Z0h N l = some (validRels l) := by
 unfold Z0h Z4e;rw [Ya (n := l.length) (fun j => validRel (l.getD j (⟨#[]⟩, 0, 0)) && (decide (j = 0) || slt (l.getD (j - 1) (⟨#[]⟩, 0, 0)).1 (l.getD j (⟨#[]⟩, 0, 0)).1)) (some false) (some (decide (l.length <= 4))) (fun k i => Z0m N k l i)
  (fun k => by simp [Z0m, Z1l]; omega) (fun k j hj => ?_) (by omega)]
 ·unfold validRels;by_cases h : ∀ j, j < l.length -> (validRel (l.getD j (⟨#[]⟩, 0, 0)) && (decide (j = 0) || slt (l.getD (j - 1) (⟨#[]⟩, 0, 0)).1 (l.getD j (⟨#[]⟩, 0, 0)).1)) = true
  ·grind
  ·grind
 ·have h1 : (j : Int) < (l.length : Int) := by omega
  simp only [zS, Z0m, Z1l, h1, Y1 hj, Y4 hj, Y3a, Y2 hj, Y0 (j := j)];cases validRel l[j] with
  | false => rfl
  | true =>
   simp only [zS, Ja];by_cases h0 : j = 0
   ·subst h0; simp
   ·have h3 : (j : Int) > 0 := by omega
    have h4 : j - 1 < l.length := by omega
    simp only [zS, h3, Y8 (show 0 < j by omega) (by omega), Y1 h4, Y4 h4, h0, Jt, Y2 h4];cases slt l[j - 1].1 l[j].1 <;> rfl
theorem Y43 {l : List Rel} (hl : l.length <= 1048576) (hN : 1048576 < N) : Z0y N l = some (validRels l) := by
 rw [<- Y1q hl hN];unfold Z0y Z6l Z0h Z4e;rw [Ya (n := l.length) (fun j => validRel (l.getD j (⟨#[]⟩, 0, 0)) && (decide (j = 0) || slt (l.getD (j - 1) (⟨#[]⟩, 0, 0)).1 (l.getD j (⟨#[]⟩, 0, 0)).1)) (some false) (some (decide (l.length <= 4))) (fun k i => Z0m N k l i)
  (fun k => by simp [Z0m, Z1l]; omega) (fun k j hj => ?_) (by omega),
  Ya (n := l.length) (fun j => validRel (l.getD j (⟨#[]⟩, 0, 0)) && (decide (j = 0) || slt (l.getD (j - 1) (⟨#[]⟩, 0, 0)).1 (l.getD j (⟨#[]⟩, 0, 0)).1)) (some false) (some (decide (l.length <= 4))) (fun k i => Z1x N k l l (l.length : Int) i)
  (fun k => by simp [Z1x, Z3s]; omega) (fun k j hj => ?_) (by omega)]
 ·have h1 : (j : Int) < (l.length : Int) := by omega
  simp only [zS, Z1x, Z3s, h1, Y1 hj, Y4 hj, Y7t, Y2 hj, Y0 (j := j)];cases validRel l[j] with
  | false => rfl
  | true =>
   simp only [zS, Ja];by_cases h0 : j = 0
   ·subst h0; simp
   ·have h3 : (j : Int) > 0 := by omega
    have h4 : j - 1 < l.length := by omega
    simp only [zS, h3, Y8 (show 0 < j by omega) (by omega), Y1 h4, Y4 h4, h0, Jt, Y2 h4];cases slt l[j - 1].1 l[j].1 <;> rfl
 ·have h1 : (j : Int) < (l.length : Int) := by omega
  simp only [zS, Z0m, Z1l, h1, Y1 hj, Y4 hj, Y3a, Y2 hj, Y0 (j := j)];cases validRel l[j] with
  | false => rfl
  | true =>
   simp only [zS, Ja];by_cases h0 : j = 0
   ·subst h0; simp
   ·have h3 : (j : Int) > 0 := by omega
    have h4 : j - 1 < l.length := by omega
    simp only [zS, h3, Y8 (show 0 < j by omega) (by omega), Y1 h4, Y4 h4, h0, Jt, Y2 h4];cases slt l[j - 1].1 l[j].1 <;> rfl
def validVals (xs : List Int) : Bool := xs.all fun x => decide (0 <= x /\ x <= 9)
theorem Y3b {α : Type} {d : α} {xs : List α} {p : α -> Bool} : (∀ j, j < xs.length -> p (xs.getD j d) = true) ↔ xs.all p = true := by
 rw [Jh];constructor
 ·intro h x hx;obtain ⟨i, hi, rfl⟩ := Jd.1 hx;have := h i hi
  rwa [Y2 hi] at this
 ·grind
def fact1 (l : List Rel) (f : Fact) : Bool := decide (0 <= f.1 /\ f.1 <= (l.length : Int) - 1) && (decide ((f.2.length : Int) = (l.getD f.1.toNat (⟨#[]⟩, 0, 0)).2.1) && validVals f.2)
theorem Y19 {l : List Rel} {f : Fact} (hl : l.length <= 1048576) (hf : f.2.length <= 1048576) (hN : 1048576 < N) : Z0q N l f = some (validRels l && fact1 l f) := by
 obtain ⟨r, v⟩ := f;unfold Z0q Z9d;rw [Y1q hl hN, J0];cases validRels l with
 | false => rfl
 | true =>
  simp only [zS, l1In, Ja, fact1];rw [Y5];by_cases h : 0 <= r /\ r <= (l.length : Int) - 1
  ·have h2 : r.toNat < l.length := by omega
   simp only [zS, h, and_self, Y9 h.1 (show r < l.length by omega), Y18 h.1 (show r < l.length by omega), bneI, Y2 h2, Ja];by_cases h3 : (v.length : Int) = l[r.toNat].2.1
   ·simp only [zS, h3, Ja];rw [Ya (n := v.length) (fun j => decide (0 <= v.getD j 0 /\ v.getD j 0 <= 9)) (some false) (some true) (fun k i => Z3t N k r v i) (fun k => by simp [Z3t, Z5u]) (fun k j hj => ?_) (by grind)]
    ·unfold validVals;by_cases h4 : ∀ j, j < v.length -> decide (0 <= v.getD j 0 /\ v.getD j 0 <= 9) = true
     ·rw [Jc h4, (Y3b (d := (0 : Int)) (p := fun x => decide (0 <= x /\ x <= 9))).1 h4]
     ·rw [Jm h4];congr 1; symm;rw [J1l];exact fun h5 => h4 ((Y3b (d := (0 : Int)) (p := fun x => decide (0 <= x /\ x <= 9))).2 h5)
    ·have h1 : (j : Int) < (v.length : Int) := by omega
     simp only at hf;simp only [zS, Z3t, Z5u, h1, Y1 hj, Y4 hj, l1In, Y2 hj, Y0 (j := j), Y7s]
   ·grind
  ·grind
def cmpInts : List Int -> List Int -> Int
 | [], [] => 0
 | [], _ :: _ => -1
 | _ :: _, [] => 1
 | a :: x, b :: y => if a < b then -1 else if a > b then 1 else cmpInts x y
theorem Y34 : ∀ (a b : List Int), cmpInts a b = 0 ↔ a = b
 | [], [] => by simp [cmpInts]
 | [], _ :: _ => by simp [cmpInts]
 | _ :: _, [] => by simp [cmpInts]
 | a :: x, b :: y => by
  simp [cmpInts];split
  ·grind
  ·split
   ·grind
   ·rw [Y34 x y];constructor
    ·grind
    ·grind
theorem Y44 {a b : List Int} (ha : a.length <= 1048576) (hb : b.length <= 1048576) (hN : 1048576 < N) : Z6d N a b = some (cmpInts a b) := by
 have := loop (fun k (j : Nat) => Z50 N k a b (j : Int)) (fun j => j <= a.length /\ j <= b.length /\ cmpInts (a.drop j) (b.drop j) = cmpInts a b) (fun j => a.length - j) (fun o => o = some (cmpInts a b)) (fun k j hs => by
  obtain ⟨h1, h2, h3⟩ := hs;by_cases hj : j < a.length
  ·by_cases hjb : j < b.length
   ·have e1 : (j : Int) < (a.length : Int) := by omega
    have e2 : (j : Int) < (b.length : Int) := by omega
    simp only [zS, Z50, Z6i, e1, e2, Y1 hj, Y1 hjb, Y4 hj, Y4 hjb, Y0 (j := j)];rw [Jb hj, Jb hjb] at h3;simp [cmpInts] at h3;by_cases hlt : a[j] < b[j]
    ·grind
    ·grind
   ·left;have e1 : (j : Int) < (a.length : Int) := by omega
    have e2 : ¬ (j : Int) < (b.length : Int) := by omega
    have e3 : ¬ (a.length : Int) < (b.length : Int) := by omega
    have e4 : (a.length : Int) > (b.length : Int) := by omega
    simp [Z50, Z6i, e1, e2, e3, e4, J3, J1];rw [Jb hj, J13 (l := b) (by omega)] at h3;rw [<- h3]; rfl
  ·left;have hja : j = a.length := by omega
   have e1 : ¬ (j : Int) < (a.length : Int) := by omega
   simp only [zS, Z50, Z6i, e1];rw [J13 (l := a) (by omega)] at h3;by_cases hlt : a.length < b.length
   ·have e2 : (a.length : Int) < (b.length : Int) := by omega
    simp only [zS, e2];rw [Jb (by omega)] at h3;rw [<- h3]; rfl
   ·have e2 : ¬ (a.length : Int) < (b.length : Int) := by omega
    have e3 : ¬ (a.length : Int) > (b.length : Int) := by omega
    simp only [zS, e2, e3];rw [J13 (by omega)] at h3;rw [<- h3]; rfl) N 0 (by omega) ⟨by omega, by omega, rfl⟩
 exact this
theorem Y6z {a b : List Int} (ha : a.length <= 1048576) (hb : b.length <= 1048576) (hN : 1048576 < N) : Z2f N a b = some (cmpInts a b) := by
 have hc : ∀ x y : Int, Z4g N x y = some (if x < y then -1 else if x > y then 1 else 0) := by
  intro x y;simp [Z4g, Z63, J1];by_cases h1 : x < y
  ·simp [h1]
  ·by_cases h2 : x > y <;> simp [h1, h2]
 have := loop (fun k (j : Nat) => Z1b N k a b a (a.length : Int) (j : Int)) (fun j => j <= a.length /\ j <= b.length /\ cmpInts (a.drop j) (b.drop j) = cmpInts a b) (fun j => a.length - j) (fun o => o = some (cmpInts a b)) (fun k j hs => by
  obtain ⟨h1, h2, h3⟩ := hs;by_cases hj : j < a.length
  ·have e1 : (j : Int) < (a.length : Int) := by omega
   by_cases hjb : j < b.length
   ·have e2 : ¬ (j : Int) >= (b.length : Int) := by omega
    simp only [zS, Z1b, Z22, e1, e2, Y1 hj, Y1 hjb, Y4 hj, Y4 hjb, Y0 (j := j), hc];rw [Jb hj, Jb hjb] at h3;simp [cmpInts] at h3;by_cases hlt : a[j] < b[j]
    ·left; simp only [hlt, if_true] at h3 ⊢; rw [<- h3]; rfl
    ·by_cases hgt : a[j] > b[j]
     ·left; simp only [hlt, hgt, if_true, if_false] at h3 ⊢; rw [<- h3]; rfl
     ·grind
   ·left;have e2 : (j : Int) >= (b.length : Int) := by omega
    simp only [zS, Z1b, Z22, e1, e2, Y1 hj];rw [Jb hj, J13 (l := b) (by omega)] at h3;rw [<- h3]; rfl
  ·left;have e1 : ¬ (j : Int) < (a.length : Int) := by omega
   simp only [zS, Z1b, Z22, e1];rw [J13 (l := a) (by omega)] at h3;by_cases hlt : a.length < b.length
   ·have e2 : (a.length : Int) < (b.length : Int) := by omega
    simp only [zS, e2];rw [Jb (by omega)] at h3;rw [<- h3]; rfl
   ·have e2 : ¬ (a.length : Int) < (b.length : Int) := by omega
    simp only [zS, e2];rw [J13 (by omega)] at h3;rw [<- h3]; rfl) N 0 (by omega) ⟨by omega, by omega, rfl⟩
 exact this
def cmpFacts (a b : Fact) : Int := if a.1 < b.1 then -1 else if a.1 > b.1 then 1 else cmpInts a.2 b.2
theorem Y3c {a b : Fact} (ha : a.2.length <= 1048576) (hb : b.2.length <= 1048576) (hN : 1048576 < N) : Z1e N a b = some (cmpFacts a b) := by
 unfold Z1e cmpFacts;rw [Y44 ha hb hN];by_cases h1 : a.1 < b.1
 ·simp [h1]
 ·grind
theorem Y7u {a b : Fact} (ha : a.2.length <= 1048576) (hb : b.2.length <= 1048576) (hN : 1048576 < N) : Z3m N a b = some (cmpFacts a b) := by
 unfold Z3m cmpFacts Z86;rw [Y6z ha hb hN, bneI];by_cases h1 : a.1 < b.1
 ·grind
 ·grind
theorem Y45 {α : Type} (d : α) {xs : List α} {p : α -> Bool} : (∃ j, j < xs.length /\ p (xs.getD j d) = true) ↔ xs.any p = true := by
 rw [J21];constructor
 ·grind
 ·rintro ⟨x, hx, h⟩
  obtain ⟨i, hi, rfl⟩ := Jd.1 hx;exact ⟨i, hi, by grind⟩
theorem Yw {α : Type} {d : α} {xs : List α} {p : α -> Bool} {g : Option Int} (h : (∃ j, j < xs.length /\ p (xs.getD j d) = true /\ (∀ i, i < j -> p (xs.getD i d) = false) /\ g = some (j : Int)) \/ ((∀ i, i < xs.length -> p (xs.getD i d) = false) /\ g = some (-1))) : (g.bind fun r => some (decide (r >= 0))) = some (xs.any p) := by
 rcases h with ⟨j, h1, h2, _, rfl⟩ | ⟨h1, rfl⟩
 ·rw [(Y45 d).1 ⟨j, h1, h2⟩];simp
 ·have : xs.any p = false := by
   rw [J1l];intro h;obtain ⟨j, hj, h2⟩ := (Y45 d).2 h;rw [h1 j hj] at h2; simp at h2
  rw [this]; rfl
theorem Y61 {v : List Int} (hv : v.length <= 1048576) (hN : 1048576 < N) : Z55 N v = some (validVals v) := by
 unfold Z55 Z0g Z0j Z2l;rw [Yw (d := (0 : Int)) (xs := v) (p := fun x => !decide (0 <= x /\ x <= 9)) (first (n := v.length) (fun j => !decide (0 <= v.getD j 0 /\ v.getD j 0 <= 9)) (fun k i => Z0f N k v (v.length : Int) i) (fun k => by simp [Z0f, Z16]) (fun k j hj => ?_) (by omega))]
 ·simp only [J0, validVals];rw [show (v.any fun x => !decide (0 <= x /\ x <= 9)) = !(v.all fun x => decide (0 <= x /\ x <= 9)) from (List.not_all_eq_any_not (l := v) (p := fun x => decide (0 <= x /\ x <= 9))).symm, Bool.not_not]
 ·have h1 : (j : Int) < (v.length : Int) := by omega
  simp only [zS, Z0f, Z16, h1, Y1 hj, Y4 hj, Z4m, Yh, Y2 hj, Y0 (j := j)];cases decide (0 <= v[j] /\ v[j] <= 9) <;> rfl
theorem Y62 {l : List Rel} {f : Fact} (hl : l.length <= 1048576) (hf : f.2.length <= 1048576) (hN : 1048576 < N) : Z7o N l f = some (fact1 l f) := by
 obtain ⟨r, v⟩ := f;simp only [Z7o, Yh, J0, fact1];rw [Y5];by_cases h : 0 <= r /\ r <= (l.length : Int) - 1
 ·have h2 : r.toNat < l.length := by omega
  simp only [zS, h, and_self, Y9 h.1 (show r < l.length by omega), Y18 h.1 (show r < l.length by omega), beqI, Y2 h2, Ja];rw [Y61 hf hN];cases decide ((v.length : Int) = l[r.toNat].2.1) <;> rfl
 ·grind
def factAt (d : Db) (j : Nat) : Fact := d.2.getD j (0, [])
def factsOk (d : Db) : Prop := ∀ j, j < d.2.length -> (fact1 d.1 (factAt d j) && (decide (j = 0) || decide (cmpFacts (factAt d (j - 1)) (factAt d j) < 0))) = true
instance (d : Db) : Decidable (factsOk d) := by unfold factsOk; infer_instance
def validDb (d : Db) : Bool := validRels d.1 && (decide (d.2.length <= 14) && decide (factsOk d))
theorem Yf {d : Db} (h : SmallDb d) (hN : 1048576 < N) : Z0 N d = some (validDb d) := by
 have hv : ∀ j, j < d.2.length -> (factAt d j).2.length <= 1048576 := fun j hj => by unfold factAt; rw [Y2 hj]; exact h.vals _ (J4 hj)
 unfold Z0 Z7j;rw [Ya (n := d.2.length) (fun j => (validRels d.1 && fact1 d.1 (factAt d j)) && (decide (j = 0) || decide (cmpFacts (factAt d (j - 1)) (factAt d j) < 0))) (some false) (some (validRels d.1 && decide (d.2.length <= 14))) (fun k i => Z2e N k d.1 d.2 i)
  (fun k => by
   simp only [zS, Z2e, Z4b, J10, Y1q h.rels hN];cases validRels d.1 with
   | false => rfl
   | true => simp only [J3, Ja, J1m]; exact decide_eq_decide.2 (by omega)) (fun k j hj => ?_) (by have := h.facts; omega)]
 ·unfold validDb factsOk;cases hr : validRels d.1 with
  | true =>
   simp only [Ja];by_cases h2 : ∀ j, j < d.2.length -> (fact1 d.1 (factAt d j) && (decide (j = 0) || decide (cmpFacts (factAt d (j - 1)) (factAt d j) < 0))) = true
   ·grind
   ·grind
  | false => simp
 ·have h1 : (j : Int) < (d.2.length : Int) := by omega
  have hf := h.facts;have ha : at_ (0, []) d.2 (j : Int) = factAt d j := by unfold factAt; rw [Y4 hj, Y2 hj]
  simp only [zS, Z2e, Z4b, h1, Y1 hj, ha, Y19 h.rels (hv j hj) hN, Y0 (j := j)];cases validRels d.1 && fact1 d.1 (factAt d j) with
  | false => rfl
  | true =>
   simp only [zS, Ja];by_cases h0 : j = 0
   ·subst h0; simp
   ·have h3 : (j : Int) > 0 := by omega
    have h4 : j - 1 < d.2.length := by omega
    have hb : at_ (0, []) d.2 ((j - 1 : Nat) : Int) = factAt d (j - 1) := by unfold factAt; rw [Y4 h4, Y2 h4]
    simp only [zS, h3, Y8 (show 0 < j by omega) (by omega), Y1 h4, hb, Y3c (hv _ h4) (hv _ hj) hN, h0, Jt];by_cases h5 : cmpFacts (factAt d (j - 1)) (factAt d j) < 0
    ·grind
    ·grind
theorem Y24 {d : Db} (h : SmallDb d) (hN : 1048576 < N) : Z0b N d = some (validDb d) := by
 have hv : ∀ j, j < d.2.length -> (factAt d j).2.length <= 1048576 := fun j hj => by unfold factAt; rw [Y2 hj]; exact h.vals _ (J4 hj)
 unfold Z0b Z7p;rw [Y43 h.rels hN, J0];unfold validDb;cases validRels d.1 with
 | false => rfl
 | true =>
  simp [J1];by_cases h14 : d.2.length <= 14
  ·have : ¬ (d.2.length : Int) > 14 := by omega
   simp [this, J1, h14];rw [Ya (n := d.2.length) (fun j => fact1 d.1 (factAt d j) && (decide (j = 0) || decide (cmpFacts (factAt d (j - 1)) (factAt d j) < 0))) (some false) (some true) (fun k i => Z2g N k d.1 d.2 d.2 (d.2.length : Int) i)
    (fun k => by simp [Z2g, Z4c]) (fun k j hj => ?_) (by omega)]
   ·unfold factsOk;by_cases h2 : ∀ j, j < d.2.length -> (fact1 d.1 (factAt d j) && (decide (j = 0) || decide (cmpFacts (factAt d (j - 1)) (factAt d j) < 0))) = true
    ·grind
    ·grind
   ·have h1 : (j : Int) < (d.2.length : Int) := by omega
    have ha : at_ (0, []) d.2 (j : Int) = factAt d j := by unfold factAt; rw [Y4 hj, Y2 hj]
    simp only [zS, Z2g, Z4c, h1, Y1 hj, ha, Y62 h.rels (hv j hj) hN, Y0 (j := j)];cases fact1 d.1 (factAt d j) with
    | false => rfl
    | true =>
     simp only [zS, Ja];by_cases h0 : j = 0
     ·subst h0; simp
     ·have h3 : (j : Int) > 0 := by omega
      have h4 : j - 1 < d.2.length := by omega
      have hb : at_ (0, []) d.2 ((j - 1 : Nat) : Int) = factAt d (j - 1) := by unfold factAt; rw [Y4 h4, Y2 h4]
      simp only [zS, h3, Y8 (show 0 < j by omega) (by omega), Y1 h4, hb, Y7u (hv _ h4) (hv _ hj) hN, h0, Jt];by_cases h5 : cmpFacts (factAt d (j - 1)) (factAt d j) < 0
      ·grind
      ·grind
  ·grind
theorem Y22 : ∀ (a b c : List Int), cmpInts a b < 0 -> cmpInts b c < 0 -> cmpInts a c < 0
 | [], [], c, h, _ => by grind
 | [], _ :: _, [], _, h => by simp [cmpInts] at h
 | [], _ :: _, _ :: _, _, _ => by simp [cmpInts]
 | _ :: _, [], c, h, _ => by simp [cmpInts] at h
 | _ :: _, _ :: _, [], _, h => by simp [cmpInts] at h
 | x :: a, y :: b, z :: c, h1, h2 => by
  simp [cmpInts] at h1 h2 ⊢;by_cases hxy : x < y
  ·grind
  ·rw [Jm hxy] at h1;split at h1
   ·omega
   ·have : x = y := by omega
    subst this;by_cases hyz : x < z
    ·grind
    ·rw [Jm hyz] at h2 ⊢;split at h2
     ·omega
     ·rename_i hg;rw [Jm hg];exact Y22 a b c h1 h2
theorem Y3d {a b c : Fact} (h1 : cmpFacts a b < 0) (h2 : cmpFacts b c < 0) : cmpFacts a c < 0 := by
 unfold cmpFacts at h1 h2 ⊢;by_cases hab : a.1 < b.1
 ·grind
 ·rw [Jm hab] at h1;split at h1
  ·omega
  ·by_cases hbc : b.1 < c.1
   ·grind
   ·rw [Jm hbc] at h2;split at h2
    ·omega
    ·rw [Jm (by omega), Jm (by omega)];exact Y22 _ _ _ h1 h2
theorem Z0ee : ∀ (n : Nat) (a b c : List Int), cmpInts a b < 0 -> cmpInts b c < 0 -> a.take n = c.take n -> a.length = b.length -> b.length = c.length -> a.take n = b.take n
 | 0, _, _, _, _, _, _, _, _ => by simp
 | n + 1, [], [], _, h, _, _, _, _ => by grind
 | n + 1, [], _ :: _, _, _, _, _, h, _ => by simp at h
 | n + 1, _ :: _, [], _, _, _, _, h, _ => by simp at h
 | n + 1, _ :: _, _ :: _, [], _, _, _, _, h => by simp at h
 | n + 1, x :: a, y :: b, z :: c, h1, h2, h3, h4, h5 => by
  simp at h3 ⊢;simp [cmpInts] at h1 h2;obtain ⟨rfl, h3⟩ := h3;by_cases hxy : x < y
  ·grind
  ·rw [Jm hxy] at h1;split at h1
   ·omega
   ·have : x = y := by omega
    subst this;rw [Jm (by omega), Jm (by omega)] at h2;exact ⟨rfl, Z0ee n a b c h1 h2 h3 (by simpa using h4) (by simpa using h5)⟩
section
variable (S : Nat -> Nat -> Bool)
def blk (n s : Nat) : List Nat := (List.range n).filter (S s)
def isSt (s : Nat) : Bool := (List.range s).all fun k => !S s k
def sts (n : Nat) : List Nat := (List.range n).filter (isSt S)
def B (n : Nat) : List (List Nat) := (sts S n).map (blk S n)
structure Runs (n : Nat) : Prop where
 refl : ∀ i, S i i = true
 symm : ∀ i k, S i k = true -> S k i = true
 trans : ∀ i j k, S i j = true -> S j k = true -> S i k = true
 run : ∀ i j k, i <= j -> j <= k -> k < n -> S i k = true -> S i j = true
variable {S}
theorem Yd {s : Nat} : isSt S s = true ↔ ∀ k, k < s -> S s k = false := by
 unfold isSt;rw [Jh];constructor
 ·grind
 ·grind
theorem Yo (n : Nat) : sts S (n + 1) = sts S n ++ (if isSt S n = true then [n] else []) := by
 unfold sts;rw [J1i, J1j];congr 1;by_cases h : isSt S n = true <;> simp [h]
theorem Y1a (n s : Nat) : blk S (n + 1) s = blk S n s ++ (if S s n = true then [n] else []) := by
 unfold blk;rw [J1i, J1j];congr 1;by_cases h : S s n = true <;> simp [h]
theorem Y1m {n s : Nat} : s ∈ sts S n ↔ s < n /\ isSt S s = true := by
 unfold sts; rw [Jv, Ji]
theorem Y63 {n : Nat} (h : isSt S n = true) : blk S n n = [] := by
 unfold blk;rw [List.filter_eq_nil_iff];intro k hk;rw [Yd.1 h k (Ji.1 hk)]; simp
theorem Y7o {N n : Nat} (hS : Runs S N) (h : isSt S n = true) : B S (n + 1) = B S n ++ [[n]] := by
 unfold B;rw [Yo, Jc h, Jy];congr 1
 ·apply J1r;intro s hs;obtain ⟨h1, h2⟩ := Y1m.1 hs;rw [Y1a, Jm, Jf];intro hc;have := hS.symm _ _ hc;rw [Yd.1 h s h1] at this;simp at this
 ·simp;rw [Y1a, Y63 h, Jc (hS.refl n)]; rfl
theorem Y1r {N : Nat} (hS : Runs S N) : ∀ n, 0 < n -> n <= N -> ∃ A t, sts S n = A ++ [t] /\ t < n /\ isSt S t = true /\ ∀ k, t <= k -> k < n -> S t k = true
 | 0, h, _ => by omega
 | n + 1, _, hN => by
  by_cases h : isSt S n = true
  ·refine ⟨sts S n, n, by rw [Yo, Jc h], by omega, h, fun k h1 h2 => ?_⟩;have : k = n := by omega
   subst this;exact hS.refl _
  ·have hn : 0 < n := by
    apply J1d;intro h0;have : n = 0 := by omega
    subst this;apply h;rw [Yd]; intro k hk; omega
   obtain ⟨A, t, e, h1, h2, h3⟩ := Y1r hS n hn (by omega);refine ⟨A, t, by rw [Yo, Jm h, Jf]; exact e, by omega, h2, fun k k1 k2 => ?_⟩;by_cases hk : k < n
   ·grind
   ·have : k = n := by omega
    subst this;obtain ⟨q, q1, q2⟩ : ∃ q, q < k /\ S k q = true := by
     apply J1d;intro hc;apply h;rw [Yd];intro q hq;rw [J1l];exact fun hs => hc ⟨q, hq, hs⟩
    have q3 := hS.symm _ _ q2;have q4 := hS.run q (k - 1) k (by omega) (by omega) (by omega) q3;exact hS.trans _ _ _ (h3 (k - 1) (by omega) (by omega)) (hS.trans _ _ _ (hS.symm _ _ q4) q3)
theorem Y7p {N n : Nat} (hS : Runs S N) (h : ¬ isSt S n = true) (hn : n < N) {A : List Nat} {t : Nat} (e : sts S n = A ++ [t]) (ht : S t n = true) : B S (n + 1) = A.map (blk S n) ++ [blk S n t ++ [n]] := by
 unfold B;rw [Yo, Jm h, Jf, e, Jy];congr 1
 ·apply J1r;intro s hs;rw [Y1a, Jm, Jf];intro hc;have hst := hS.trans _ _ _ hc (hS.symm _ _ ht);have m1 := Y1m.1 (show s ∈ sts S n by grind);have m2 := Y1m.1 (show t ∈ sts S n by rw [e]; simp);have hne : s ≠ t := by
   have hnd : (sts S n).Nodup := List.nodup_range.sublist List.filter_sublist;rw [e] at hnd;exact fun h => (List.nodup_append.1 hnd).2.2 s hs t (by simp) h
  by_cases hlt : s < t
  ·have := Yd.1 m2.2 s hlt;rw [hS.symm _ _ hst] at this; simp at this
  ·have := Yd.1 m1.2 t (by omega);rw [hst] at this; simp at this
 ·simp;rw [Y1a, Jc ht]
theorem Y46 {n s : Nat} (hr : S s s = true) (hs : s < n) : ∃ h r, blk S n s = h :: r /\ S s h = true /\ (h = s ↔ isSt S s = true) := by
 have hm : s ∈ blk S n s := Jv.2 ⟨Ji.2 hs, hr⟩;cases hb : blk S n s with
 | nil => grind
 | cons h r =>
  have hh : (blk S n s).head? = some h := by rw [hb]; rfl
  unfold blk at hh;rw [List.head?_filter, List.find?_range_eq_some] at hh;obtain ⟨h1, h2, h3⟩ := hh;refine ⟨h, r, rfl, h1, ?_⟩;constructor
  ·intro e;subst e;rw [Yd];intro k hk;have := h3 k hk;simpa using this
  ·intro hst;have h4 : ¬ h < s := fun hlt => by
    rw [Yd.1 hst h hlt] at h1; simp at h1
   have h5 : ¬ s < h := fun hlt => by grind
   omega
theorem Y2u {N : Nat} (hS : Runs S N) : ∀ n, n <= N -> ((B S n).map List.length).sum = n
 | 0, _ => by simp [B, sts]
 | n + 1, hn => by
  by_cases h : isSt S n = true
  ·rw [Y7o hS h, Jy, List.sum_append, Y2u hS n (by omega)]; simp
  ·have hn0 : 0 < n := by
    apply J1d;intro h0;have : n = 0 := by omega
    subst this;apply h;rw [Yd]; intro k hk; omega
   obtain ⟨A, t, e, h1, h2, h3⟩ := Y1r hS (n + 1) (by omega) hn;have e' : sts S n = A ++ [t] := by rw [Yo, Jm h, Jf] at e; exact e
   have ih := Y2u hS n (by omega);rw [Y7p hS h (by omega) e' (h3 n (by omega) (by omega))];unfold B at ih;rw [e'] at ih;simp at ih ⊢;omega
end
def keyLen (l : List Rel) (f : Fact) : Int := (l.getD f.1.toNat (⟨#[]⟩, 0, 0)).2.2
def keyOf (l : List Rel) (f : Fact) : List Int := f.2.take (keyLen l f).toNat
def sameK (l : List Rel) (a b : Fact) : Bool := decide (a.1 = b.1) && decide (keyOf l a = keyOf l b)
theorem Y47 {r : Rel} (h : validRel r = true) : 0 <= r.2.2 /\ r.2.2 <= r.2.1 := by
 unfold validRel Z0a at h;by_cases h1 : r.1.size = 1
 ·have hb : ∃ b, byteAt r.1 0 = some b := by
   unfold byteAt;have : (0 : Int).toNat < r.1.size := by omega
   exact ⟨r.1[(0 : Int).toNat], by rw [Jc (by omega), getElem?_pos]⟩
  obtain ⟨b, hb⟩ := hb;rw [hb] at h;simp only [J0, l1In] at h;by_cases h2 : 0 <= r.2.2 /\ r.2.2 <= r.2.1
  ·exact h2
  ·grind
 ·grind
theorem Yr {l : List Rel} (h : validRels l = true) {j : Nat} (hj : j < l.length) : validRel (l.getD j (⟨#[]⟩, 0, 0)) = true := by
 have := (of_decide_eq_true h).1 j hj;rw [J8] at this;exact this.1
structure GoodFact (l : List Rel) (f : Fact) : Prop where
 lo : 0 <= f.1
 hi : f.1 < (l.length : Int)
 len : (f.2.length : Int) = (l.getD f.1.toNat (⟨#[]⟩, 0, 0)).2.1
 k0 : 0 <= keyLen l f
 k1 : keyLen l f <= (f.2.length : Int)
theorem Yg {l : List Rel} {f : Fact} (hl : validRels l = true) (hf : fact1 l f = true) : GoodFact l f := by
 unfold fact1 at hf;rw [J8, J8, J6, J6] at hf;obtain ⟨⟨h1, h2⟩, h3, h4⟩ := hf;have := Y47 (Yr hl (j := f.1.toNat) (by omega));exact ⟨h1, by omega, h3, this.1, by rw [h3]; exact this.2⟩
theorem Y64 {a b : List Int} (ha : a.length <= 1048576) (hN : 1048576 < N) : Z24 N a b = some (decide (a = b)) := by
 unfold Z24 Z6x;by_cases hl : a.length = b.length
 ·have : ((a.length : Int) != (b.length : Int)) = false := by rw [bneI]; simp; omega
  rw [this, J1, Y42 (n := a.length) (fun j => decide (a[j]? = b[j]?)) (fun k i => Z23 N k a b (a.length : Int) i) (fun k => by simp [Z23, Z3x]) (fun k j hj => ?_) (by omega)]
  ·congr 1;exact decide_eq_decide.2 (Y4x hl).symm
  ·have h1 : (j : Int) < (a.length : Int) := by omega
   have hjb : j < b.length := by omega
   simp only [zS, Z23, Z3x, h1, Y1 hj, Y1 hjb, Y4 hj, Y4 hjb, Y0 (j := j), bneI, J1u hj, J1u hjb, J1m];by_cases h : a[j] = b[j] <;> simp [h]
 ·have : ((a.length : Int) != (b.length : Int)) = true := by rw [bneI]; simp; omega
  have hne : ¬ a = b := fun h => hl (by rw [h]);rw [this, J3, J5 hne]
theorem Yl {lo hi : Int} {n : Nat} (h1 : 0 <= lo) (h2 : lo <= hi) (h3 : hi <= (n : Int)) : subOk lo hi n = true := by
 unfold subOk; rw [J2 h1, J2 h2, J2 h3]; rfl
theorem Y3 {α : Type} {s x : List α} {b : Nat} (hb : b <= 1000 := by omega) (h : s.length + x.length <= 140737488355 := by first | omega | (simp only [J11, J1t]; omega) | (simp <;> omega)) : appOk s x b = true := by
 refine J2 ?_
 calc (s.length + x.length) * b <= 140737488355 * 1000 := Nat.mul_le_mul h hb
  _ <= _ := by omega
theorem Y53 {l : List Rel} {f : Fact} (hl : l.length <= 1048576) (hf : f.2.length <= 1048576) (hN : 1048576 < N) (hv : validRels l = true) (h1 : fact1 l f = true) : Z79 N l f = some (keyOf l f) := by
 have g := Yg hv h1;have e : (at_ (⟨#[]⟩, 0, 0) l f.1).2.2 = keyLen l f := rfl;unfold Z79;rw [Y19 hl hf hN, hv, h1, J0, Y9 g.lo g.hi, grd_true];simp [J1, e];rw [Yl (by omega) g.k0 g.k1, grd_true, Y3, grd_true];rfl
theorem Y48 {l : List Rel} {a b : Fact} (hl : l.length <= 1048576) (ha : a.2.length <= 1048576) (hb : b.2.length <= 1048576) (hN : 1048576 < N) (hv : validRels l = true) (h1 : fact1 l a = true) (h2 : fact1 l b = true) : Z2q N l a b = some (sameK l a b) := by
 unfold Z2q sameK;rw [Y19 hl ha hN, Y19 hl hb hN, hv, h1, h2];simp only [zS, Bool.and_self, beqI];by_cases h : a.1 = b.1
 ·rw [J2 h, J3, Y53 hl ha hN hv h1, Y53 hl hb hN hv h2, J0, J0,
   Y44 (by unfold keyOf; rw [Jn]; omega) (by unfold keyOf; rw [Jn]; omega) hN, J0, Ja]
  congr 1;exact decide_eq_decide.2 (Y34 _ _)
 ·grind
theorem Y70 {l : List Rel} {a b : Fact} (ha : a.2.length <= 1048576) (hb : b.2.length <= 1048576) (hN : 1048576 < N) (hv : validRels l = true) (h1 : fact1 l a = true) (h2 : fact1 l b = true) : Z6m N l a b = some (sameK l a b) := by
 have g := Yg hv h1;have g' := Yg hv h2;have e : (at_ (⟨#[]⟩, 0, 0) l a.1).2.2 = keyLen l a := rfl;unfold Z6m sameK;rw [bneI];by_cases h : a.1 = b.1
 ·have hk : keyLen l a = keyLen l b := by unfold keyLen; rw [h]
  rw [J2 h, J9, J1, Y9 g.lo g.hi, grd_true, e];rw [Yl (by omega) g.k0 g.k1, grd_true, Yl (by omega) g.k0 (by have := g'.k1; rw [<- hk] at this; exact this), grd_true, Y64 (by grind) hN, J0, Ja];unfold keyOf;rw [<- hk]
 ·simp_all
def sameD (d : Db) (i k : Nat) : Bool := sameK d.1 (factAt d i) (factAt d k)
structure ValidDb (d : Db) : Prop where
 rels : validRels d.1 = true
 few : d.2.length <= 14
 fact : ∀ j, j < d.2.length -> fact1 d.1 (factAt d j) = true
 lt : ∀ i k, i < k -> k < d.2.length -> cmpFacts (factAt d i) (factAt d k) < 0
theorem Y6 {d : Db} (h : validDb d = true) : ValidDb d := by
 unfold validDb at h;rw [J8, J8, J6, J6] at h;obtain ⟨h1, h2, h3⟩ := h;refine ⟨h1, h2, fun j hj => ?_, ?_⟩
 ·have := h3 j hj;rw [J8] at this;exact this.1
 ·have step : ∀ j, 0 < j -> j < d.2.length -> cmpFacts (factAt d (j - 1)) (factAt d j) < 0 := by
   intro j h0 hj;have := h3 j hj;rw [J8, J2i, J6, J6] at this;rcases this.2 with h | h
   ·omega
   ·exact h
  intro i k
  induction k with
  | zero => intro h; omega
  | succ k ih =>
   intro hik hk;have hs := step (k + 1) (by omega) hk;rw [J2c] at hs;by_cases h : i = k
   ·grind
   ·exact Y3d (ih (by omega) (by omega)) hs
theorem runs {d : Db} (h : ValidDb d) : Runs (sameD d) d.2.length := by
 refine ⟨fun i => by simp [sameD, sameK], fun i k hs => ?_, fun i j k h1 h2 => ?_, fun i j k hij hjk hk hs => ?_⟩
 ·simp [sameD, sameK] at hs ⊢;exact ⟨hs.1.symm, hs.2.symm⟩
 ·simp [sameD, sameK] at h1 h2 ⊢;exact ⟨h1.1.trans h2.1, h1.2.trans h2.2⟩
 ·by_cases e1 : i = j
  ·subst e1; simp [sameD, sameK]
  ·by_cases e2 : j = k
   ·grind
   ·have l1 := h.lt i j (by omega) (by omega);have l2 := h.lt j k (by omega) hk;have g1 := Yg h.rels (h.fact i (by omega));have g2 := Yg h.rels (h.fact j (by omega));have g3 := Yg h.rels (h.fact k hk);simp [sameD, sameK] at hs ⊢;obtain ⟨s1, s2⟩ := hs;generalize factAt d i = a at *;generalize factAt d j = b at *;generalize factAt d k = c at *;have hab : a.1 = b.1 := by
     unfold cmpFacts at l1 l2;by_cases q1 : a.1 < b.1
     ·grind
     ·grind
    have hbc : b.1 = c.1 := by omega
    have c1 : cmpInts a.2 b.2 < 0 := by unfold cmpFacts at l1; rw [Jm (by omega), Jm (by omega)] at l1; exact l1
    have c2 : cmpInts b.2 c.2 < 0 := by unfold cmpFacts at l2; rw [Jm (by omega), Jm (by omega)] at l2; exact l2
    have k1 : keyLen d.1 a = keyLen d.1 b := by unfold keyLen; rw [hab]
    have k2 : keyLen d.1 b = keyLen d.1 c := by unfold keyLen; rw [hbc]
    have n1 := g1.len;have n2 := g2.len;have n3 := g3.len;rw [hab] at n1;rw [hbc] at n1 n2;unfold keyOf at s2 ⊢;rw [<- k2, <- k1] at s2;rw [<- k1];exact ⟨hab, Z0ee _ _ _ _ c1 c2 s2 (by omega) (by omega)⟩
abbrev Ctx := List Int × Int × Int
structure COk (c : Ctx) : Prop where
 len : c.1.length <= 1048576
 lo : 0 <= c.2.1
 hi : c.2.1 <= c.1.length
def Dr {α : Type} (c : Ctx) (o : Option (Ctx × α)) (Q : α -> Prop) : Prop := ∃ (p : Int × Int) (x : α), o = some ((c.1, p), x) /\ COk (c.1, p) /\ Q x
theorem Dr.bind {α β : Type} {c : Ctx} {o : Option (Ctx × α)} {Q : α -> Prop} {k : Ctx × α -> Option (Ctx × β)} {Q' : β -> Prop} (h : Dr c o Q) (hk : ∀ p x, COk (c.1, p) -> Q x -> Dr (c.1, p) (k ((c.1, p), x)) Q') : Dr c (o.bind k) Q' := by
 obtain ⟨p, x, h1, h2, h3⟩ := h;rw [h1, J0];exact hk p x h2 h3
theorem Dr.ret {α : Type} {c : Ctx} {p : Int × Int} {x : α} {Q : α -> Prop} (h : COk (c.1, p)) (hx : Q x) : Dr c (some ((c.1, p), x)) Q := ⟨p, x, rfl, h, hx⟩
theorem Dr.mono {α : Type} {c : Ctx} {o : Option (Ctx × α)} {Q Q' : α -> Prop} (h : Dr c o Q) (hq : ∀ x, Q x -> Q' x) : Dr c o Q' := by
 obtain ⟨p, x, h1, h2, h3⟩ := h;exact ⟨p, x, h1, h2, hq x h3⟩
theorem Y65 (x : Int) : 0 <= bits .and .i64 x 255 /\ bits .and .i64 x 255 <= 255 := by
 have h : (BitVec.ofInt 64 x &&& BitVec.ofInt 64 255).toNat <= 255 := by
  rw [BitVec.toNat_and];exact Jj Nat.and_le_right (by decide)
 show 0 <= w64 ((BitVec.ofInt 64 x &&& BitVec.ofInt 64 255).toNat : Int) /\ w64 ((BitVec.ofInt 64 x &&& BitVec.ofInt 64 255).toNat : Int) <= 255;rw [Y5];omega
theorem Y8o {code : List Int} (hc : code.length <= 1048576) (hN : 1048576 < N) : ∃ c, Z8f N code = some c /\ COk c := by
 unfold Z8f Z0bp;have := loop (fun k (s : Int × Nat) => Z8t N k code s.1 (s.2 : Int)) (fun s => s.2 <= code.length) (fun s => code.length - s.2) (fun o => ∃ c, o = some c /\ COk c) (fun k s hs => by
  obtain ⟨h, j⟩ := s;simp only at hs ⊢;simp only [Z8t, Z0ai];by_cases hj : j < code.length
  ·by_cases h4 : (j : Int) < 4000
   ·right;refine ⟨(bits .and .i64 (w64 ((w64 ((w64 (h * 131)) + (w64 (at_ 0 code j)))) + 7)) 1073741823, j + 1), hj, by omega, ?_⟩;have h1 : (j : Int) < (code.length : Int) := by omega
    simp only [zS, h1, h4, Y1 hj, Y0 (j := j)]
   ·left;have h1 : (j : Int) < (code.length : Int) := by omega
    simp only [zS, h1, h4];exact ⟨_, rfl, hc, J1q 0, by simp⟩
  ·left;have h1 : ¬ (j : Int) < (code.length : Int) := by omega
   simp only [zS, h1];exact ⟨_, rfl, hc, J1q 0, by simp⟩) N (w64 (10101 + (code.length : Int)), 0) (by simp; omega) (by simp)
 exact this
theorem Y25 {c : Ctx} (h : COk c) : Dr c (Z3c N c) (fun b => 0 <= b /\ b <= 255) := by
 obtain ⟨l, p, q⟩ := c;obtain ⟨h1, h2, h3⟩ := h;simp only at h1 h2 h3;simp [Z3c];by_cases hp : p < (l.length : Int)
 ·simp only [zS, hp, Y9 h2 hp];have : w64 (p + 1) = p + 1 := Y5;refine Dr.ret (c := (l, p, q)) ⟨h1, ?_, ?_⟩ (Y65 _)
  ·grind
  ·grind
 ·simp [hp, J1];exact Dr.ret (c := (l, p, q)) ⟨h1, h2, h3⟩ (Y65 _)
theorem Y54 {x n : Int} (hx : 0 <= x) (hn : 0 < n) : 0 <= x.tmod n /\ x.tmod n < n := ⟨Int.tmod_nonneg n hx, Int.tmod_lt_of_pos x hn⟩
theorem Y7 {c : Ctx} {n : Int} (h : COk c) : Dr c (Z1 N c n) (fun b => 0 <= b /\ (0 < n -> b < n) /\ (n <= 0 -> b = 0)) := by
 unfold Z1;by_cases h0 : n <= 0
 ·simp only [zS, h0];exact ⟨c.2, 0, rfl, h, J1q 0, fun h1 => absurd h1 (by omega), fun _ => rfl⟩
 ·simp only [zS, h0];by_cases h1 : n <= 256
  ·simp only [zS, h1];refine (Y25 h).bind fun p x hp hx => ?_;simp only [Y23 (show n ≠ 0 by omega)];have := Y54 hx.1 (show 0 < n by omega);exact Dr.ret (c := (c.1, p)) hp ⟨this.1, fun _ => this.2, fun h4 => h4.elim⟩
  ·simp only [zS, h1];refine (Y25 h).bind fun p x hp hx => ?_;refine (Y25 (c := (c.1, p)) hp).bind fun p2 x2 hp2 hx2 => ?_;refine (Y25 (c := (c.1, p2)) hp2).bind fun p3 x3 hp3 hx3 => ?_;refine (Y25 (c := (c.1, p3)) hp3).bind fun p4 x4 hp4 hx4 => ?_;simp only [Y23 (show n ≠ 0 by omega)];have e : w64 ((w64 ((w64 ((w64 (x * 16777216)) + (w64 (x2 * 65536)))) + (w64 (x3 * 256)))) + x4) = x * 16777216 + x2 * 65536 + x3 * 256 + x4 := by
    rw [Y5 (x := x * 16777216), Y5 (x := x2 * 65536), Y5 (x := x3 * 256), Y5 (x := x * 16777216 + x2 * 65536), Y5 (x := x * 16777216 + x2 * 65536 + x3 * 256), Y5]
   have := Y54 (x := x * 16777216 + x2 * 65536 + x3 * 256 + x4) (by omega) (show 0 < n by omega);rw [e];exact Dr.ret (c := (c.1, p4)) hp4 ⟨this.1, fun _ => this.2, fun h4 => h4.elim⟩
theorem Y1n {c : Ctx} {l : List Int} (h : COk c) (hl : 0 < l.length) : Dr c (Z0w N c l) (fun x => x ∈ l) := by
 refine (Y7 h).bind fun p x hp hx => ?_;have hi := hx.2.1 (by omega);simp only [Y9 hx.1 hi, grd_true, Y18 hx.1 hi];exact Dr.ret (c := (c.1, p)) hp (J4 _)
theorem Y7v {c : Ctx} {l : List ByteArray} (h : COk c) (hl : 0 < l.length) : Dr c (Z7k N c l) (fun x => x ∈ l) := by
 refine (Y7 h).bind fun p x hp hx => ?_;have hi := hx.2.1 (by omega);simp only [Y9 hx.1 hi, grd_true, Y18 hx.1 hi];exact Dr.ret (c := (c.1, p)) hp (J4 _)
def rels4 (x y : Int) : List Rel := [(⟨#[114]⟩, 2, 1), (⟨#[115]⟩, 2, 1), (⟨#[116]⟩, 2, x), (⟨#[117]⟩, 3, y)]
def RelsD (l : List Rel) : Prop := l.length = 4 /\ (∀ r ∈ l, 2 <= r.2.1 /\ r.2.1 <= 3) /\ ∃ x y : Int, (x = 0 \/ x = 1 \/ x = 2) /\ (y = 1 \/ y = 2) /\ l = rels4 x y
theorem Y8c {c : Ctx} (h : COk c) : Dr c (Z7g N c) RelsD := by
 refine (Y1n h (by decide)).bind fun p x hp hx => ?_;refine (Y7 (c := (c.1, p)) hp).bind fun p2 x2 hp2 hx2 => ?_;refine Dr.ret (c := (c.1, p2)) hp2 ⟨rfl, fun r hr => ?_, x, w64 (1 + x2), ?_, ?_, rfl⟩
 ·grind
 ·grind
 ·have := hx2.1;have := hx2.2.1 (by decide);rw [Y5];omega
theorem Y8p {l : List Rel} (hl : RelsD l) {x : Int} (h0 : 0 <= x) (h1 : x < l.length) : inb x l = true /\ 2 <= (at_ ((⟨#[]⟩, (0, 0)) : Rel) l x).2.1 /\ (at_ ((⟨#[]⟩, (0, 0)) : Rel) l x).2.1 <= 3 := by
 refine ⟨Y9 h0 h1, ?_⟩;rw [Y18 h0 h1];exact hl.2.1 _ (J4 _)
def FactD (f : Fact) : Prop := 2 <= f.2.length /\ f.2.length <= 3
theorem Y66 {c : Ctx} {l : List Rel} {v : Int} (h : COk c) (hl : RelsD l) (hN : 1048576 < N) : Dr c (Z7h N c l v) FactD := by
 refine (Y7 h).bind fun p x hp hx => ?_;have hi := hx.2.1 (by rw [hl.1]; decide);obtain ⟨g1, g2, g3⟩ := Y8p hl hx.1 hi;have := loop (fun k (s : (Int × Int) × List Int) => Z7x N k c.1 s.1.1 s.1.2 l v 0 [] x s.2) (fun s => COk (c.1, s.1) /\ (s.2.length : Int) <= (at_ ((⟨#[]⟩, (0, 0)) : Rel) l x).2.1) (fun s => 4 - s.2.length) (fun o => Dr c o FactD) (fun k s hs => by
  obtain ⟨q, f2⟩ := s;simp only at hs ⊢;obtain ⟨hs1, hs2⟩ := hs;simp only [Z7x, Z0a7, g1, grd_true];by_cases hc : (f2.length : Int) < (at_ ((⟨#[]⟩, (0, 0)) : Rel) l x).2.1
  ·right;simp only [zS, hc];obtain ⟨q2, y, e, hq, hy⟩ := Y7 (N := N) (c := (c.1, q.1, q.2)) (n := v) hs1;refine ⟨(q2, f2 ++ [y]), ⟨hq, by simp; omega⟩, by simp; omega, ?_⟩;rw [e, J0];simp only;rw [Y3, grd_true]
  ·left;simp [hc, J1];exact Dr.ret (c := c) (p := q) hs1 ⟨by simp only; omega, by simp only; omega⟩) N (p, []) (by simp; omega) ⟨hp, by simp; omega⟩
 exact this
structure DbD (m : Nat) (d : Db) : Prop where
 rels : d.1.length <= 1000
 facts : d.2.length <= m
 vals : ∀ f ∈ d.2, f.2.length <= 1000
theorem DbD.small {m : Nat} {d : Db} (h : DbD m d) (hm : m <= 1000) : SmallDb d := ⟨Jj h.rels (by omega), Jj h.facts (by omega), fun f hf => Jj (h.vals f hf) (by omega)⟩
theorem Y8d {N m : Nat} {d : Db} (h : DbD m d) (hm : m <= 1000) (hN : 1048576 < N) : Z7i N d = some d := by
 have hr := h.rels;have hf := h.facts;unfold Z7i Z0b9;rw [Y3, grd_true];have := loop (fun k (s : Nat) => Z7y N k d.1 d.2 [] [] d.1 (d.2.take s) (s : Int)) (fun s => s <= d.2.length) (fun s => d.2.length - s) (fun o => o = some d) (fun k j hs => by
  simp only [Z7y, Z0a8];by_cases hj : j < d.2.length
  ·right;refine ⟨j + 1, hj, by omega, ?_⟩;have h1 : (j : Int) < (d.2.length : Int) := by omega
   have h3 := h.vals _ (J4 hj);simp only [zS, h1, Y1 hj, Y4 hj];rw [Y3, grd_true, Y3, grd_true, Y0, J7 hj]
  ·grind) N 0 (by omega) (by omega)
 simpa using this
theorem Y8e {N m : Nat} {d : Db} {f : Fact} (h : DbD m d) (hm : m <= 1000) (hf : f.2.length <= 1000) (hN : 1048576 < N) : ∃ i, Z6g N d f = some i := by
 have hl := h.facts;have := loop (fun k (s : Nat) => Z65 N k d.1 d.2 f.1 f.2 (s : Int)) (fun s => s <= d.2.length) (fun s => d.2.length - s) (fun o => ∃ i, o = some i) (fun k j hs => by
  simp only [Z65, Z8w];by_cases hj : j < d.2.length
  ·have h1 : (j : Int) < (d.2.length : Int) := by omega
   have h3 := h.vals _ (J4 hj);simp only [zS, h1, Y1 hj, Y4 hj];rw [Y3c (by omega) (by grind) hN, J0];cases hc : (cmpFacts d.2[j] (f.1, f.2) == 0) with
   | true => left; exact ⟨_, rfl⟩
   | false =>
    right;refine ⟨j + 1, hj, by omega, ?_⟩;rw [J1, Y0]
  ·grind) N 0 (by omega) (by omega)
 exact this
theorem Y7w {N m : Nat} {d : Db} {f : Fact} (h : DbD m d) (hm : m <= 1000) (hf : f.2.length <= 1000) (hN : 1048576 < N) : ∃ b, Z3l N d f = some b := by
 unfold Z3l;rw [Yf (h.small hm) hN, J0];cases validDb d with
 | false => exact ⟨_, rfl⟩
 | true =>
  obtain ⟨i, hi⟩ := Y8e h hm hf hN;rw [J3, hi, J0];exact ⟨_, rfl⟩
theorem DbD.put {m : Nat} {d : Db} (h : DbD m d) {f : Fact} (hf : f.2.length <= 1000) (j : Nat) : DbD (m + 1) (d.1, d.2.take j ++ ([f] ++ d.2.drop j)) := by
 refine ⟨h.rels, ?_, ?_⟩
 ·have := h.facts;simp;omega
 ·intro g hg;simp at hg;rcases hg with hg | hg | hg
  ·exact h.vals g (J27 hg)
  ·grind
  ·exact h.vals g (List.mem_of_mem_drop hg)
theorem Y49 {N m : Nat} {d : Db} {f : Fact} (h : DbD m d) (hm : m <= 900) (hf : f.2.length <= 1000) (hN : 1048576 < N) : ∃ d' b, Z3r N d f = some (d', b) /\ d'.1 = d.1 /\ DbD (m + 1) d' := by
 have hl := h.facts;have hw : DbD (m + 1) d := ⟨h.rels, Jj h.facts (by omega), h.vals⟩;unfold Z3r Z9t;rw [Y8d h (by omega) hN, J0, Yf (h.small (by omega)) hN, J0];cases validDb d with
 | false => simp_all
 | true =>
  rw [J9, J1, Y19 (Jj h.rels (by omega)) (by omega) hN, J0];cases (validRels d.1 && fact1 d.1 f) with
  | false => exact ⟨d, false, rfl, rfl, hw⟩
  | true =>
   obtain ⟨b, hb⟩ := Y7w h (by omega) hf hN;rw [J9, J1, hb, J0];cases b with
   | true => grind
   | false =>
    rw [J1];cases ((d.2.length : Int) == 14) with
    | true => simp_all
    | false =>
     rw [J1];have fin : ∀ j : Nat, j <= d.2.length -> (grd (appOk [] f.2 8) <| grd (subOk (j : Int) (d.2.length : Int) d.2.length) <| grd (appOk [(f.1, f.2)] (d.2.drop ((j : Int)).toNat) 32) <| grd (subOk 0 (j : Int) d.2.length) <| grd (appOk [] (d.2.take ((j : Int)).toNat) 32) <| grd (appOk (d.2.take ((j : Int)).toNat) ([(f.1, f.2)] ++ (d.2.drop ((j : Int)).toNat)) 32) <| some ((d.1, ((d.2.take ((j : Int)).toNat) ++ ([(f.1, f.2)] ++ (d.2.drop ((j : Int)).toNat)))), true)) = some ((d.1, d.2.take j ++ ([f] ++ d.2.drop j)), true) := by
      intro j hj;have s1 : subOk (j : Int) (d.2.length : Int) d.2.length = true := by simp [subOk]; omega
      have s2 : subOk 0 (j : Int) d.2.length = true := by simp [subOk]; omega
      rw [s1, s2, Jl, Y3, Y3, Y3, Y3];rfl
     have := loop (fun k (s : Nat) => Z5h N k f.1 f.2 [] [] d.1 d.2 (s : Int)) (fun s => s <= d.2.length) (fun s => d.2.length - s) (fun o => ∃ d' b, o = some (d', b) /\ d'.1 = d.1 /\ DbD (m + 1) d') (fun k j hs => by
      simp only [Z5h, Z8g];by_cases hj : j < d.2.length
      ·have h1 : (j : Int) < (d.2.length : Int) := by omega
       have h3 := h.vals _ (J4 hj);simp only [zS, h1, Y1 hj, Y4 hj];rw [Y3c (by omega) (by simp only; omega) hN, J0];cases hc : decide (cmpFacts d.2[j] (f.1, f.2) < 0) with
       | true =>
        right;refine ⟨j + 1, hj, by omega, ?_⟩;rw [J3, Y0]
       | false =>
        left;rw [J1, fin j hs];exact ⟨_, _, rfl, rfl, h.put hf j⟩
      ·left;have h1 : ¬ (j : Int) < (d.2.length : Int) := by omega
       simp only [zS, h1];rw [fin j hs];exact ⟨_, _, rfl, rfl, h.put hf j⟩) N 0 (by omega) (by omega)
     exact this
theorem FactD.le {f : Fact} (h : FactD f) : f.2.length <= 1000 := Jj h.2 (by omega)
def DbDraw (d : Db) : Prop := RelsD d.1 /\ DbD 20 d
theorem Y7x {c : Ctx} {l : List Rel} {v : Int} (hl : RelsD l) (hN : 1048576 < N) {K : Nat} {p : Int × Int} {fs : List Fact} {n : Nat} (hp : COk (c.1, p)) (hd : DbD (20 - n) (l, fs)) (hn : n <= 20) (hK : n < K) :
  Dr c (Z7z N K c.1 p.1 p.2 [] [] l fs v (n : Int)) DbDraw := by
 have := loop (fun k (s : (Int × Int) × List Fact × Nat) => Z7z N k c.1 s.1.1 s.1.2 [] [] l s.2.1 v (s.2.2 : Int)) (fun s => COk (c.1, s.1) /\ s.2.2 <= 20 /\ DbD (20 - s.2.2) (l, s.2.1)) (fun s => s.2.2) (fun o => Dr c o DbDraw) (fun k s hs => by
  obtain ⟨q, fs, n⟩ := s;simp only at hs ⊢;obtain ⟨h1, h2, h3⟩ := hs;simp only [Z7z, Z0b0];by_cases h0 : (n : Int) > 0
  ·right;obtain ⟨q2, f, e1, hq2, hf⟩ := Y66 (N := N) (c := (c.1, q.1, q.2)) (v := v) h1 hl hN;obtain ⟨d', b, e2, h4, h5⟩ := Y49 h3 (by omega) hf.le hN;obtain ⟨d1, d2⟩ := d';simp only at h4;subst h4;refine ⟨(q2, d2, n - 1), ⟨hq2, by simp only; omega, ⟨h5.rels, Jj h5.facts (by simp only; omega), h5.vals⟩⟩, by simp only; omega, ?_⟩;simp only [zS, h0, e1, e2];rw [Y8 (by omega) (by omega)]
  ·left;have e : n = 0 := by omega
   subst e;exact Dr.ret (c := c) (p := q) h1 ⟨hl, h3⟩) K (p, fs, n) (by grind) ⟨hp, hn, hd⟩
 exact this
theorem dbOk {c : Ctx} (h : COk c) (hN : 1048576 < N) : Dr c (Z0ad N c) DbDraw := by
 refine (Y8c h).bind fun p l hp hl => ?_;refine (Y1n (c := (c.1, p)) hp (by decide)).bind fun p2 v hp2 hv => ?_;refine (Y7 (c := (c.1, p2)) hp2).bind fun p3 n hp3 hn => ?_;have h1 := hn.1;have h2 := hn.2.1 (by decide);have hd : DbD 0 ((l, []) : Db) := ⟨by simp only; rw [hl.1]; decide, by simp, by simp⟩;obtain ⟨M, rfl⟩ : ∃ M, N = M + 1 := ⟨N - 1, by omega⟩;simp [Z0aj, Z0b1];have e : w64 (2 + n) = ((n.toNat + 2 : Nat) : Int) := by rw [Y5]; omega
 rw [e];have h0 : ((n.toNat + 2 : Nat) : Int) > 0 := by omega
 simp only [zS, h0];refine (Y66 (c := (c.1, p3)) hp3 hl hN).bind fun p4 f hp4 hf => ?_;obtain ⟨d', b, e2, h4, h5⟩ := Y49 hd (by omega) hf.le hN;obtain ⟨d1, d2⟩ := d';subst h4;simp only [e2, J0];rw [Y8 (by omega) (by omega)];exact Y7x (c := (c.1, p4)) hl hN hp4 ⟨h5.rels, Jj h5.facts (by omega), h5.vals⟩ (by omega) (by omega)
def toI (l : List Nat) : List Int := l.map fun (n : Nat) => (n : Int)
theorem Y1s (l : List Nat) : (toI l).length = l.length := by simp [toI]
theorem Y1t (a b : List Nat) : toI (a ++ b) = toI a ++ toI b := by simp [toI]
theorem Y5j (S : Nat -> Nat -> Bool) (n s : Nat) : (blk S n s).length <= n := by
 exact Jj (Jo _ _) (Nat.le_of_eq Jr)
theorem Y35 (S : Nat -> Nat -> Bool) (n : Nat) : (sts S n).length <= n := by
 exact Jj (Jo _ _) (Nat.le_of_eq Jr)
theorem Y8q (S : Nat -> Nat -> Bool) (n : Nat) : (B S n).length <= n := by
 unfold B; rw [Jp]; exact Y35 S n
theorem Yb {d : Db} {k : Nat} (hk : k < d.2.length) : at_ (0, []) d.2 (k : Int) = factAt d k := by unfold factAt; rw [Y4 hk, Y2 hk]
theorem Y14 {d : Db} (h : SmallDb d) {k : Nat} (hk : k < d.2.length) : (factAt d k).2.length <= 1048576 := by unfold factAt; rw [Y2 hk]; exact h.vals _ (J4 hk)
theorem Y4y {d : Db} (h : SmallDb d) (hvb : validDb d = true) (hN : 1048576 < N) {i : Nat} (hi : i < d.2.length) : Z8b N d (i : Int) = some (toI (blk (sameD d) d.2.length i)) := by
 have hv := Y6 hvb;have hf := hv.few;have := loop (fun k (s : List Int × Nat) => Z5y N k (i : Int) d.1 d.2 s.1 (s.2 : Int)) (fun s => s.2 <= d.2.length /\ s.1 = toI (blk (sameD d) s.2 i)) (fun s => d.2.length - s.2) (fun o => o = some (toI (blk (sameD d) d.2.length i))) (fun k s hs => by
  obtain ⟨out, j⟩ := s;obtain ⟨h1, h2⟩ := hs;simp only at h1 h2 ⊢;by_cases hj : j < d.2.length
  ·right;have e1 : (j : Int) < (d.2.length : Int) := by omega
   have e2 : (0 : Int) <= (i : Int) /\ (i : Int) <= (d.2.length : Int) - 1 := by omega
   have e3 : validDb (d.1, d.2) = true := hvb;have hlen : out.length <= 14 := by rw [h2, Y1s]; have := Y5j (sameD d) j i; omega
   refine ⟨(toI (blk (sameD d) (j + 1) i), j + 1), ⟨hj, rfl⟩, by simp only; omega, ?_⟩;simp only [zS, Z5y, Z7v, e1, Yf (d := (d.1, d.2)) h hN, e3, l1In, Y5 (show -9223372036854775808 <= (d.2.length : Int) - 1 by omega) (by omega), e2, and_self, Y1 hi, Y1 hj, Yb hi, Yb hj, Y48 h.rels (Y14 h hi) (Y14 h hj) hN hv.rels (hv.fact i hi) (hv.fact j hj), Y0 (j := j)];rw [Y1a];cases hs : sameD d i j with
   | true =>
    have hs' : sameK d.1 (factAt d i) (factAt d j) = true := hs;rw [hs', J3, Y3, grd_true, Jc rfl, Y1t, h2]; rfl
   | false =>
    have hs' : sameK d.1 (factAt d i) (factAt d j) = false := hs;rw [hs', J1, Jm (by simp), Jf, h2]
  ·left;have : j = d.2.length := by omega
   subst this;have e1 : ¬ (d.2.length : Int) < (d.2.length : Int) := by omega
   simp [Z5y, Z7v, e1, J1, h2]) N ([], 0) (by simp only; omega) ⟨by simp, by simp [blk, toI]⟩
 exact this
def blocksOf (d : Db) : List (List Int) := if validDb d then (B (sameD d) d.2.length).map toI else []
theorem Y1u {d : Db} (h : SmallDb d) (hN : 1048576 < N) : Z3w N d = some (blocksOf d) := by
 have hfs := h.facts;unfold Z3w Z0bh blocksOf;cases hvb : validDb d with
 | false =>
  simp;obtain ⟨n, rfl⟩ : ∃ n, N = n + 1 := ⟨N - 1, by omega⟩;simp only [zS, Z57, Z6o, Yf (d := (d.1, d.2)) h hN, show validDb (d.1, d.2) = false from hvb];cases decide ((0 : Int) < (d.2.length : Int)) <;> rfl
 | true =>
  simp;have hv := Y6 hvb;have hf := hv.few;have hR := runs hv;have := loop (fun k (s : List (List Int) × Nat) => Z57 N k d.1 d.2 s.1 (s.2 : Int)) (fun s => s.2 <= d.2.length /\ s.1 = (((sts (sameD d) s.2).map (blk (sameD d) d.2.length)).map toI)) (fun s => d.2.length - s.2) (fun o => o = some ((B (sameD d) d.2.length).map toI)) (fun k s hs => by
   obtain ⟨out, j⟩ := s;obtain ⟨h1, h2⟩ := hs;simp only at h1 h2 ⊢;by_cases hj : j < d.2.length
   ·right;have e1 : (j : Int) < (d.2.length : Int) := by omega
    have e3 : validDb (d.1, d.2) = true := hvb;have hlen : out.length <= 14 := by rw [h2, Jp, Jp]; have := Y35 (sameD d) j; omega
    obtain ⟨q, r, b1, b2, b3⟩ := Y46 (hR.refl j) hj;have e4 : toI (blk (sameD d) d.2.length j) = (q : Int) :: toI r := by rw [b1]; rfl
    have e5 : inb 0 (toI (blk (sameD d) d.2.length j)) = true := by rw [e4]; exact Y1 (j := 0) (by simp)
    have e6 : at_ 0 (toI (blk (sameD d) d.2.length j)) 0 = (q : Int) := by rw [e4]; exact Y4 (j := 0) (by simp)
    refine ⟨((((sts (sameD d) (j + 1)).map (blk (sameD d) d.2.length)).map toI), j + 1), ⟨hj, rfl⟩, by simp only; omega, ?_⟩;simp only [zS, Z57, Z6o, e1, Yf (d := (d.1, d.2)) h hN, e3, Y4y (d := (d.1, d.2)) h hvb hN (show j < (d.1, d.2).2.length from hj), Y0 (j := j)];rw [show sameD (d.1, d.2) = sameD d from rfl, e5, grd_true, e6, beqI, Yo];by_cases hst : isSt (sameD d) j = true
    ·have hq := b3.2 hst;rw [Jc hst, J2 (by rw [hq]), J3, Y3, grd_true, Jy, Jy, <- h2]; rfl
    ·grind
   ·left;have : j = d.2.length := by omega
    subst this;have e1 : ¬ (d.2.length : Int) < (d.2.length : Int) := by omega
    simp only [zS, Z57, Z6o, e1, h2];rfl) N ([], 0) (by simp only; omega) ⟨by simp, by simp [sts]⟩
  exact this
def sizes (d : Db) : List Nat := (blocksOf d).map List.length
theorem Y1g {d : Db} (hvb : validDb d = true) : (sizes d).sum = d.2.length /\ (∀ x ∈ sizes d, 1 <= x) /\ (sizes d).length <= 14 /\ (blocksOf d).length = (sizes d).length := by
 have hv := Y6 hvb;have hR := runs hv;have e : sizes d = (B (sameD d) d.2.length).map List.length := by
  unfold sizes blocksOf;rw [Jc hvb, List.map_map];apply J1r;intro x _;exact Y1s x
 refine ⟨by rw [e]; exact Y2u hR _ (J1b _), ?_, ?_, by unfold sizes; simp⟩
 ·rw [e];intro x hx;obtain ⟨b, hb, rfl⟩ := Jg.1 hx;unfold B at hb;obtain ⟨s, hs, rfl⟩ := Jg.1 hb;obtain ⟨q, r, b1, _⟩ := Y46 (hR.refl s) (Y1m.1 hs).1;rw [b1]; simp
 ·rw [e, Jp];have := Y8q (sameD d) d.2.length;have := hv.few;omega
theorem Y55 : ∀ {a : List Nat} {x : Nat}, x ∈ a -> x <= a.sum
 | y :: a, x, h => by
  rw [List.sum_cons];rcases Je.1 h with rfl | h
  ·omega
  ·have := Y55 h; omega
theorem Y67 {d : Db} (h : SmallDb d) (hN : 1048576 < N) : Z4l N d = some (toI (sizes d)) := by
 unfold Z4l Z0a3;rw [Y1u h hN, J0];have hl : (blocksOf d).length <= 14 := by
  cases hvb : validDb d with
  | true => have := Y1g hvb; omega
  | false => unfold blocksOf; rw [hvb]; simp
 have := loop (fun k (s : List Int × Nat) => Z49 N k s.1 (blocksOf d) (s.2 : Int)) (fun s => s.2 <= (blocksOf d).length /\ s.1 = toI ((sizes d).take s.2)) (fun s => (blocksOf d).length - s.2) (fun o => o = some (toI (sizes d))) (fun k s hs => by
  obtain ⟨out, j⟩ := s;obtain ⟨h1, h2⟩ := hs;simp only at h1 h2 ⊢;have hsl : (sizes d).length = (blocksOf d).length := by unfold sizes; simp
  by_cases hj : j < (blocksOf d).length
  ·right;have e1 : (j : Int) < ((blocksOf d).length : Int) := by omega
   have hlen : out.length <= 14 := by rw [h2, Y1s, Jn]; omega
   refine ⟨(toI ((sizes d).take (j + 1)), j + 1), ⟨hj, rfl⟩, by simp only; omega, ?_⟩;simp only [zS, Z49, Z6c, e1, Y1 hj, Y4 hj, Y0 (j := j)];rw [Y3, grd_true, J7 (by omega), Y1t, <- h2];simp [toI, sizes]
  ·left;have : j = (blocksOf d).length := by omega
   subst this;simp [Z49, Z6c, J1, h2];rw [<- hsl, J19]) N ([], 0) (by simp only; omega) ⟨by simp, by simp [toI]⟩
 exact this
def one (p : Int -> Bool) (x : Int) : Int := if p x then 1 else 0
theorem Y26 {d : Db} (hvb : validDb d = true) : ∀ b ∈ blocksOf d, b ≠ [] /\ b.length <= 14 := by
 intro b hb;obtain ⟨s1, s2, s3, s4⟩ := Y1g hvb;have hm : b.length ∈ sizes d := Jg.2 ⟨_, hb, rfl⟩;have h1 := s2 _ hm;have h2 := Y55 hm;have hf := (Y6 hvb).few;exact ⟨fun h => by rw [h] at h1; simp at h1, by omega⟩
theorem Y36 {d : Db} (hvb : validDb d = true) : ∀ b ∈ blocksOf d, ∀ x ∈ b, 0 <= x /\ x < (d.2.length : Int) := by
 intro b hb x hx;unfold blocksOf at hb;rw [Jc hvb] at hb;obtain ⟨b', hb', rfl⟩ := Jg.1 hb;obtain ⟨s, hs, rfl⟩ := Jg.1 hb';obtain ⟨k, hk, rfl⟩ := Jg.1 hx;have := Ji.1 (Jv.1 hk).1;omega
theorem Y1o {c : Ctx} {n : Int} (h : COk c) : Dr c (Z2b N c n) (fun _ => True) := by
 refine (Y7 h).bind fun p x hp hx => ?_;exact Dr.ret (c := (c.1, p)) hp trivial
theorem Y4a {α : Type} {s x : List α} {b : Nat} (h : (s.length + x.length) * b <= 140737488355328) : appOk s x b = true := J2 h
theorem Yi {α β : Type} {piece : α -> List β} {n : Nat} : ∀ {a : List α}, (∀ x ∈ a, (piece x).length <= n) -> (a.flatMap piece).length <= a.length * n
 | [], _ => by simp
 | x :: a, h => by
  have h1 := h x (by simp);have h2 := Yi (a := a) fun y hy => h y (by simp [hy]);rw [J16, Jz, J2h, Nat.add_mul]; omega
theorem Y37 : ∀ {a b : List Int}, a.Pairwise (· < ·) -> b.Pairwise (· < ·) -> (∀ x, x ∈ a ↔ x ∈ b) -> a = b
 | [], [], _, _, _ => rfl
 | [], y :: b, _, _, h => by have := (h y).2 (by simp); simp at this
 | x :: a, [], _, _, h => by have := (h x).1 (by simp); simp at this
 | x :: a, y :: b, ha, hb, h => by
  rw [Jw] at ha hb;have e : x = y := by
   have h1 := (h x).1 (by simp);have h2 := (h y).2 (by simp);rcases Je.1 h1 with h1 | h1
   ·exact h1
   ·grind
  subst e;rw [Y37 ha.2 hb.2 fun z => ?_];have hz := h z;simp at hz;constructor
  ·grind
  ·grind
def uniq (s : List Int) : List Int := ((List.range s.length).filter fun j => decide (j = 0 \/ s.toArray[j]! ≠ s.toArray[j - 1]!)).map fun j => s.toArray[j]!
theorem Yz {s : List Int} {j : Nat} (h : j < s.length) : s.toArray[j]! = s[j] := by grind
theorem Y4z {s : List Int} (h : s.Pairwise (· <= ·)) : (uniq s).Pairwise (· < ·) := by
 unfold uniq;rw [J17];refine (J28 _ J14).imp_of_mem fun {i j} hi hj hlt => ?_;obtain ⟨hj1, hj2⟩ := Jv.1 hj;have hj1 := Ji.1 hj1;rw [J6, Yz hj1, Yz (show j - 1 < s.length by omega)] at hj2;rw [Yz (show i < s.length by omega), Yz hj1];have h1 := Jk.1 h (j - 1) j (by omega) hj1 (by omega);have h2 : s[i] <= s[j - 1] := by
  by_cases e : i = j - 1
  ·grind
  ·exact Jk.1 h i (j - 1) (by omega) (by omega) (by omega)
 rcases hj2 with hj2 | hj2 <;> omega
theorem Y71 {s : List Int} (x : Int) : x ∈ uniq s ↔ x ∈ s := by
 unfold uniq;rw [Jg];constructor
 ·grind
 ·intro hx;obtain ⟨j, hj, rfl⟩ := Jd.1 hx;have key : ∀ j (hj : j < s.length), ∃ i, i ∈ ((List.range s.length).filter fun j => decide (j = 0 \/ s.toArray[j]! ≠ s.toArray[j - 1]!)) /\ s.toArray[i]! = s[j] := by
   intro j
   induction j with
   | zero => intro hj; exact ⟨0, Jv.2 ⟨Ji.2 hj, by simp⟩, Yz hj⟩
   | succ j ih =>
    intro hj;by_cases e : s[j + 1] = s[j]
    ·grind
    ·refine ⟨j + 1, Jv.2 ⟨Ji.2 hj, ?_⟩, Yz hj⟩;rw [J6, Yz hj, J2c, Yz (show j < s.length by omega)];exact .inr e
  exact key j hj
def setOf (s : List Int) : List Int := uniq (s.mergeSort fun a b => decide (a <= b))
theorem Y4b (s : List Int) : (setOf s).Pairwise (· < ·) := by
 refine Y4z ?_;have := List.pairwise_mergeSort (le := fun a b : Int => decide (a <= b)) (fun a b c h1 h2 => by simp at *; omega) (fun a b => by grind) s;exact this.imp fun h => by simpa using h
theorem Y3j {s : List Int} (x : Int) : x ∈ setOf s ↔ x ∈ s := by unfold setOf; rw [Y71, List.mem_mergeSort]
theorem Y68 (s : List Int) : (setOf s).length <= s.length := by
 unfold setOf uniq;rw [Jp, List.length_mergeSort];have := Jo (fun j => decide (j = 0 \/ (s.mergeSort fun a b => decide (a <= b)).toArray[j]! ≠ (s.mergeSort fun a b => decide (a <= b)).toArray[j - 1]!)) (List.range (s.mergeSort fun a b => decide (a <= b)).length)
 rwa [Jr, List.length_mergeSort] at this
theorem Y7y {L : List (List Int)} (hl : L.length <= 1000) (hs : (L.map List.length).sum <= 1000000) (hN : 1048576 < N) : Z2v N L = some L.flatten := by
 have sum_take : ∀ (L : List (List Int)) (j : Nat), ((L.take j).map List.length).sum <= (L.map List.length).sum := by
  intro L
  induction L with
  | nil => intro j; simp
  | cons b L ih =>
   intro j;cases j with
   | zero => simp
   | succ j => grind
 have flat_len : ∀ L : List (List Int), L.flatten.length = (L.map List.length).sum := fun L => List.length_flatten;have inner : Z1y N N [] L (L.length : Int) 0 = some L.flatten := by
  have := loop (fun k (s : Nat) => Z1y N k (L.take s).flatten L (L.length : Int) (s : Int)) (fun s => s <= L.length) (fun s => L.length - s) (fun o => o = some L.flatten) (fun k j hj' => by
   simp only [Z1y, Z5m];by_cases hj : j < L.length
   ·right;refine ⟨j + 1, hj, by omega, ?_⟩;have h1 : (j : Int) < (L.length : Int) := by omega
    have t := sum_take L (j + 1);rw [J7 hj, Jy, List.sum_append] at t;simp only [J1p, List.map_nil, List.sum_cons, List.sum_nil] at t;simp only [zS, h1, Y1 hj, Y4 hj];rw [Y3 (by omega) (by rw [flat_len]; omega), grd_true, Y0, J7 hj, J2b];simp only [J1y, List.flatten_nil, Jf]
   ·grind) N 0 (by omega) (by omega)
  exact this
 have := loop (fun k (s : Nat) => Z2z N k L (((L.take s).map List.length).sum : Int) L (L.length : Int) (s : Int)) (fun s => s <= L.length) (fun s => L.length - s) (fun o => o = some L.flatten) (fun k j hj' => by
  simp only [Z2z, Z5n];by_cases hj : j < L.length
  ·right;refine ⟨j + 1, hj, by omega, ?_⟩;have h1 : (j : Int) < (L.length : Int) := by omega
   have t := sum_take L (j + 1);have e : ((L.take (j + 1)).map List.length).sum = ((L.take j).map List.length).sum + (L[j]).length := by
    rw [J7 hj, Jy, List.sum_append];simp
   have ew : w64 ((((L.take j).map List.length).sum : Int) + ((L[j]).length : Int)) = (((L.take (j + 1)).map List.length).sum : Int) := by
    rw [e, Y5];omega
   have h2 : ¬ ((((L.take (j + 1)).map List.length).sum : Nat) : Int) < 0 := by omega
   simp only [zS, h1, Y1 hj, Y4 hj, ew, J5 h2, Y0 (j := j)]
  ·left;have h1 : ¬ (j : Int) < (L.length : Int) := by omega
   have e : L.take j = L := Js (by omega);have g : (decide ((0 : Int) <= ((L.map List.length).sum : Int)) && decide ((([] : List Int).length + (((L.map List.length).sum : Nat) : Int).toNat) * 8 <= 140737488355328)) = true := by
    rw [J8, J6, J6, Jl];simp only [J1t];omega
   simp only [zS, h1, e, Z8d, g, inner]) N 0 (by omega) (by omega)
 exact this
theorem Y69 {a b : List Int} (ha : a.length <= 100000) (hb : b.length <= 100000) (hN : 1048576 < N) : Z6b N a b = some (setOf (a ++ b)) := by
 unfold Z6b;rw [Y7y (by simp) (by simp; omega) hN, J0];unfold Z8e Z6w;have e : [a, b].flatten = a ++ b := by simp
 rw [e, J2 (by rw [Jz]; omega), grd_true];rfl
def weightsIn (w : List Int) : Bool := w.all fun x => decide (1 <= x /\ x <= 9)
def validWeights (d : Db) (w : List Int) : Bool := validDb d && (decide (w.length = d.2.length) && weightsIn w)
def validSet (n : Nat) (l : List Int) : Bool := decide (∀ j, j < l.length -> (decide (0 <= l.getD j 0 /\ l.getD j 0 <= (n : Int) - 1) && (decide (j = 0) || decide (l.getD (j - 1) 0 < l.getD j 0))) = true)
theorem Y7z {d : Db} {l : List Int} (h : SmallDb d) (hl : l.length <= 1048576) (hN : 1048576 < N) : Z8q N d l = some (validSet d.2.length l) := by
 have hf := h.facts;unfold Z8q Z0c0;rw [Ya (n := l.length) (fun j => decide (0 <= l.getD j 0 /\ l.getD j 0 <= (d.2.length : Int) - 1) && (decide (j = 0) || decide (l.getD (j - 1) 0 < l.getD j 0))) (some false) (some true) (fun k i => Z76 N k l d.1 d.2 i)
  (fun k => by simp [Z76, Z9b]) (fun k j hj => ?_) (by omega)]
 ·unfold validSet;split
  ·rename_i h4; rw [J2 h4]
  ·rename_i h4; rw [J5 h4]
 ·have h1 : (j : Int) < (l.length : Int) := by omega
  simp only [zS, Z76, Z9b, h1, Y1 hj, Y4 hj, l1In, Y2 hj, Y0 (j := j), Y5 (show -9223372036854775808 <= (d.2.length : Int) - 1 by omega) (by omega)];cases decide (0 <= l[j] /\ l[j] <= (d.2.length : Int) - 1) with
  | false => rfl
  | true =>
   simp only [zS, Ja];by_cases h0 : j = 0
   ·subst h0; simp
   ·have h3 : (j : Int) > 0 := by omega
    have h4 : j - 1 < l.length := by omega
    simp only [zS, h3, Y8 (show 0 < j by omega) (by omega), Y1 h4, Y4 h4, h0, Jt, Y2 h4];by_cases h5 : l[j - 1] < l[j]
    ·grind
    ·grind
theorem Y3e {n : Nat} {l : List Int} (hn : n <= 1048576) (hl : l.length <= 1048576) (hN : 1048576 < N) : Z1q N l (n : Int) = some (validSet n l) := by
 unfold Z1q Z9y;rw [Ya (n := l.length) (fun j => decide (0 <= l.getD j 0 /\ l.getD j 0 <= (n : Int) - 1) && (decide (j = 0) || decide (l.getD (j - 1) 0 < l.getD j 0))) (some false) (some true) (fun k i => Z45 N k l (n : Int) l (l.length : Int) i)
  (fun k => by simp [Z45, Z6a]) (fun k j hj => ?_) (by omega)]
 ·unfold validSet;split
  ·simp_all
  ·simp_all
 ·have h1 : (j : Int) < (l.length : Int) := by omega
  simp only [zS, Z45, Z6a, h1, Y1 hj, Y4 hj, Yh, Y2 hj, Y0 (j := j), Y5 (show -9223372036854775808 <= (n : Int) - 1 by omega) (by omega)];cases decide (0 <= l[j] /\ l[j] <= (n : Int) - 1) with
  | false => rfl
  | true =>
   simp only [zS, Ja];by_cases h0 : j = 0
   ·subst h0; simp
   ·have h3 : (j : Int) > 0 := by omega
    have h4 : j - 1 < l.length := by omega
    simp only [zS, h3, Y8 (show 0 < j by omega) (by omega), Y1 h4, Y4 h4, h0, Jt, Y2 h4];by_cases h5 : l[j - 1] < l[j]
    ·grind
    ·grind
theorem Y1h {n : Nat} {l : List Int} (h : validSet n l = true) {j : Nat} (hj : j < l.length) : 0 <= l[j] /\ l[j] < (n : Int) := by
 have := of_decide_eq_true h j hj;rw [J8, J6, Y2 hj] at this;omega
theorem Y1i {r : Rel} (h : validRel r = true) : 1 <= r.2.1 /\ r.2.1 <= 3 := by
 unfold validRel Z0a at h;by_cases h1 : r.1.size = 1
 ·have hb : ∃ b, byteAt r.1 0 = some b := by
   unfold byteAt;have : (0 : Int).toNat < r.1.size := by omega
   exact ⟨r.1[(0 : Int).toNat], by rw [Jc (by omega), getElem?_pos]⟩
  obtain ⟨b, hb⟩ := hb;rw [hb] at h;simp only [J0, l1In] at h;by_cases h2 : 1 <= r.2.1 /\ r.2.1 <= 3
  ·exact h2
  ·grind
 ·grind
abbrev Atm := Int × List Int
abbrev Qry := Int × List Atm × List Int
def arity (l : List Rel) (r : Int) : Int := (l.getD r.toNat (⟨#[]⟩, 0, 0)).2.1
def termsOk (n : Nat) (ts : List Int) : Bool := ts.all fun t => decide (-10 <= t /\ t <= (n : Int) - 1)
def atomAt (as : List Atm) (j : Nat) : Atm := as.getD j (0, [])
def newRel (as : List Atm) (j : Nat) : Bool := !((as.take j).any fun b => decide (b.1 = (atomAt as j).1))
def atomOk (l : List Rel) (n : Nat) (as : List Atm) (j : Nat) : Bool := decide (0 <= (atomAt as j).1 /\ (atomAt as j).1 <= (l.length : Int) - 1) && (decide (((atomAt as j).2.length : Int) = arity l (atomAt as j).1) && (newRel as j && termsOk n (atomAt as j).2))
def occB (as : List Atm) (v : Int) : Bool := as.any fun a => decide (v ∈ a.2)
def allOcc (n : Nat) (as : List Atm) : Bool := decide (∀ v, v < n -> occB as (v : Int) = true)
def atomsOk (l : List Rel) (n : Nat) (as : List Atm) : Bool := decide (∀ j, j < as.length -> atomOk l n as j = true)
def validQ (l : List Rel) (q : Qry) : Bool := validRels l && (decide (0 <= q.1 /\ q.1 <= 4) && (decide (1 <= (q.2.1.length : Int) /\ (q.2.1.length : Int) <= 3) && (atomsOk l q.1.toNat q.2.1 && (allOcc q.1.toNat q.2.1 && validSet q.1.toNat q.2.2))))
theorem Y2v {l : List Rel} {r : Int} (hv : validRels l = true) (h : 0 <= r /\ r <= (l.length : Int) - 1) : 1 <= arity l r /\ arity l r <= 3 := Y1i (Yr hv (j := r.toNat) (by omega))
def metL (f : Nat -> Bool) : List Bool := [f 0, f 1, f 2, f 3]
theorem Y56 {f : Nat -> Bool} {v : Nat} (h : v < 4) : inb (v : Int) (metL f) = true /\ at_ false (metL f) (v : Int) = f v := by
 have hl : v < (metL f).length := h;refine ⟨Y1 hl, ?_⟩;rw [Y4 hl]
 match v, h with
 | 0, _ => rfl
 | 1, _ => rfl
 | 2, _ => rfl
 | 3, _ => rfl
theorem Y72 {f : Nat -> Bool} {t : Nat} (h : t < 4) : (metL f).set t true = metL fun v => f v || decide (v = t) := by
 match t, h with
 | 0, _ => simp [metL]
 | 1, _ => simp [metL]
 | 2, _ => simp [metL]
 | 3, _ => simp [metL]
theorem Y1v {f g : Nat -> Bool} (h : ∀ v, f v = g v) : metL f = metL g := by
 unfold metL;rw [h 0, h 1, h 2, h 3]
theorem Y6a {N n : Nat} {l : List Rel} {as : List Atm} {fr : List Int} {j : Nat} {a : Int} {ts : List Int} (hn : n <= 4) (hts : ts.length <= 3) (hN : 1048576 < N) (R : List Rel -> Int -> List Atm -> List Int -> List Bool -> Int -> Option Bool) (f : Nat -> Bool) :
  Z1o R N N l (n : Int) as fr (metL f) (j : Int) a ts 0 = if termsOk n ts then R l (n : Int) as fr (metL fun v => f v || decide ((v : Int) ∈ ts)) (w64 ((j : Int) + 1)) else some false := by
 have := loop (fun k (q : Nat) => Z1o R N k l (n : Int) as fr (metL fun v => f v || decide ((v : Int) ∈ ts.take q)) (j : Int) a ts (q : Int)) (fun q => q <= ts.length /\ termsOk n (ts.take q) = true) (fun q => ts.length - q) (fun o => o = if termsOk n ts then R l (n : Int) as fr (metL fun v => f v || decide ((v : Int) ∈ ts)) (w64 ((j : Int) + 1)) else some false) (fun k q hs => by
  obtain ⟨hq', hok⟩ := hs;simp only [Z1o, Z7l];by_cases hq : q < ts.length
  ·have e1 : (q : Int) < (ts.length : Int) := by omega
   simp only [zS, e1, Y1 hq, Y4 hq, l1In, Y5 (x := (n : Int) - 1), Y0 (j := q)];by_cases ht : -10 <= ts[q] /\ ts[q] <= (n : Int) - 1
   ·right;have hok2 : termsOk n (ts.take (q + 1)) = true := by
     unfold termsOk at *;rw [J7 hq, List.all_append, hok];simp [ht]
    refine ⟨q + 1, ⟨hq, hok2⟩, by omega, ?_⟩;rw [J2 ht, J9, J1];by_cases h0 : ts[q] >= 0
    ·obtain ⟨t, e⟩ : ∃ t : Nat, ts[q] = (t : Int) := ⟨ts[q].toNat, by omega⟩;have ht4 : t < 4 := by omega
     rw [J2 h0, J3, e, (Y56 ht4).1, grd_true, grd_true, letv_eq, Jl, Y72 ht4];congr 1;refine Y1v fun v => ?_;rw [J7 hq, e];have : decide ((v : Int) ∈ ts.take q ++ [(t : Int)]) = (decide ((v : Int) ∈ ts.take q) || decide (v = t)) := by grind
     rw [this, Bool.or_assoc]
    ·rw [J5 h0, J1];congr 1;refine Y1v fun v => ?_;rw [J7 hq];have : decide ((v : Int) ∈ ts.take q ++ [ts[q]]) = decide ((v : Int) ∈ ts.take q) := by grind
     rw [this]
   ·left;have : termsOk n ts = false := by
     rw [J1l];intro h;unfold termsOk at h;exact ht (of_decide_eq_true (Jh.1 h _ (J4 hq)))
    rw [J5 ht, Jq, J3, this];rfl
  ·left;have : q = ts.length := by omega
   subst this;rw [J19] at hok;simp [J1, hok]) N 0 (by omega) (by simp [termsOk])
 simpa using this
theorem Y80 {N n : Nat} {l : List Rel} {as : List Atm} {fr : List Int} {met : List Bool} {j : Nat} {ts : List Int} (has : as.length <= 3) (hj : j < as.length) (hN : 1048576 < N) (R : List Rel -> Int -> List Atm -> List Int -> List Bool -> Int -> Option Bool) :
  Z2h R N N l (n : Int) as fr met (j : Int) (atomAt as j).1 ts 0 = if newRel as j then Z1o R N N l (n : Int) as fr met (j : Int) (atomAt as j).1 ts 0 else some false := by
 have := Ya (n := j) (fun k => !decide ((atomAt as k).1 = (atomAt as j).1)) (some false) (Z1o R N N l (n : Int) as fr met (j : Int) (atomAt as j).1 ts 0) (fun k i => Z2h R N k l (n : Int) as fr met (j : Int) (atomAt as j).1 ts i) (fun k => by simp [Z2h, Z5a, J1]) (fun k i hi => by
  have h1 : (i : Int) < (j : Int) := by omega
  have h2 : i < as.length := by omega
  simp only [zS, Z2h, Z5a, h1, Y1 h2, Y4 h2, Y0 (j := i), beqI];have e : atomAt as i = as[i] := Y2 h2;rw [e];by_cases hh : as[i].1 = (atomAt as j).1
  ·simp [hh]
  ·grind) (k := N) (by omega)
 rw [this];have e : newRel as j = decide (∀ i, i < j -> (!decide ((atomAt as i).1 = (atomAt as j).1)) = true) := by
  unfold newRel;rw [J15, J6, J1z, J2f];constructor
  ·intro h i hi;have hm : atomAt as i ∈ as.take j := by
    rw [show atomAt as i = as[i]'(by omega) from Y2 (by omega)];rw [Jd];exact ⟨i, by rw [Jn]; omega, by grind⟩
   have := h _ hm;simpa using this
  ·intro h b hb;obtain ⟨i, hi, rfl⟩ := Jd.1 hb;have hi2 : i < j := by grind
   rw [J20];have := h i hi2;rw [show atomAt as i = as[i]'(by omega) from Y2 (by omega)] at this;simpa using this
 rw [e];by_cases hh : ∀ i, i < j -> (!decide ((atomAt as i).1 = (atomAt as j).1)) = true
 ·grind
 ·grind
theorem Y81 {N n : Nat} {as : List Atm} {fr : List Int} {f : Nat -> Bool} (hn : n <= 4) (hfr : fr.length <= 1048576) (hN : 1048576 < N) :
  Z2j N N (n : Int) as fr (metL f) 0 = some (decide (∀ v, v < n -> f v = true) && validSet n fr) := by
 have h4 : Z2i N N (n : Int) as fr 0 = some (validSet n fr) := by
  rw [Ya (n := fr.length) (fun j => decide (0 <= fr.getD j 0 /\ fr.getD j 0 <= (n : Int) - 1) && (decide (j = 0) || decide (fr.getD (j - 1) 0 < fr.getD j 0))) (some false) (some true) (fun k i => Z2i N k (n : Int) as fr i)
   (fun k => by simp [Z2i, Z5b]) (fun k j hj => ?_) (by omega)]
  ·unfold validSet;split
   ·rename_i h4; rw [J2 h4]
   ·rename_i h4; rw [J5 h4]
  ·have h1 : (j : Int) < (fr.length : Int) := by omega
   simp only [zS, Z2i, Z5b, h1, Y1 hj, Y4 hj, l1In, Y2 hj, Y0 (j := j), Y5 (show -9223372036854775808 <= (n : Int) - 1 by omega) (by omega)];cases decide (0 <= fr[j] /\ fr[j] <= (n : Int) - 1) with
   | false => rfl
   | true =>
    simp only [zS, Ja];by_cases h0 : j = 0
    ·subst h0; simp
    ·have h3 : (j : Int) > 0 := by omega
     have h4 : j - 1 < fr.length := by omega
     simp only [zS, h3, Y8 (show 0 < j by omega) (by omega), Y1 h4, Y4 h4, h0, Jt, Y2 h4];by_cases h5 : fr[j - 1] < fr[j]
     ·grind
     ·grind
 rw [Ya (n := n) f (some false) (some (validSet n fr)) (fun k i => Z2j N k (n : Int) as fr (metL f) i) (fun k => by simp [Z2j, Z5c, J1, h4]) (fun k j hj => ?_) (by omega)]
 ·grind
 ·have h1 : (j : Int) < (n : Int) := by omega
  obtain ⟨m1, m2⟩ := Y56 (f := f) (show j < 4 by omega);simp only [zS, Z2j, Z5c, h1, m1, m2, Y0 (j := j)];cases f j <;> simp
theorem Y4c {as : List Atm} {j : Nat} (hj : j < as.length) (v : Int) : occB (as.take (j + 1)) v = (occB (as.take j) v || decide (v ∈ (atomAt as j).2)) := by
 unfold occB;rw [J7 hj, List.any_append, show atomAt as j = as[j] from Y2 hj];simp
theorem Y6b {l : List Rel} {q : Qry} (hl : l.length <= 1048576) (hq : q.2.2.length <= 1048576) (hN : 1048576 < N) : Z1z N l q = some (validQ l q) := by
 obtain ⟨n, as, fr⟩ := q;simp only at hq;unfold Z1z Z8x validQ;rw [Y1q hl hN, J0, l1In, l1In];cases hv : validRels l with
 | false => rfl
 | true =>
  by_cases hn : 0 <= n /\ n <= 4
  ·by_cases ha : 1 <= (as.length : Int) /\ (as.length : Int) <= 3
   ·obtain ⟨n, rfl⟩ : ∃ m : Nat, n = (m : Int) := ⟨n.toNat, by omega⟩;simp only [zS, J2 hn, J2 ha, Ja, Jl];rw [show makeOk 4 1 = true from rfl, grd_true];have hl4 : l.length <= 4 := (of_decide_eq_true hv).2;have := loop (fun k (j : Nat) => Z3e N k l (n : Int) as fr (metL fun v => occB (as.take j) (v : Int)) (j : Int)) (fun j => j <= as.length /\ ∀ i, i < j -> atomOk l n as i = true) (fun j => as.length - j) (fun o => o = some (atomsOk l n as && (allOcc n as && validSet n fr))) (fun k j hs => by
     obtain ⟨hj', hok⟩ := hs;simp only [Z3e, Z7m];by_cases hj : j < as.length
     ·have e1 : (j : Int) < (as.length : Int) := by omega
      have ea : atomAt as j = as[j] := Y2 hj;have bad : atomOk l n as j = false -> some false = some (atomsOk l n as && (allOcc n as && validSet n fr)) := fun h => by
       have : atomsOk l n as = false := by
        unfold atomsOk;rw [J1x];intro hh;have := hh j hj;rw [h] at this;cases this
       rw [this]; rfl
      simp only [zS, e1, Y1 hj, Y4 hj, l1In, Y5 (x := (l.length : Int) - 1), <- ea];by_cases c1 : 0 <= (atomAt as j).1 /\ (atomAt as j).1 <= (l.length : Int) - 1
      ·obtain ⟨ar1, ar2⟩ := Y2v hv c1;rw [J2 c1, J9, J1, Y9 c1.1 (by omega), grd_true, bneI];rw [show (at_ (⟨#[]⟩, (0, 0)) l (atomAt as j).1).2.1 = arity l (atomAt as j).1 from rfl];by_cases c2 : ((atomAt as j).2.length : Int) = arity l (atomAt as j).1
       ·rw [J2 c2, J9, J1, Y80 (by omega) hj hN];cases c3 : newRel as j with
        | false =>
         left;exact bad (by unfold atomOk; rw [c3, J1f, Ju, Ju])
        | true =>
         rw [Jc rfl, Y6a (by omega) (by omega) hN];cases c4 : termsOk n (atomAt as j).2 with
         | false =>
          left;exact bad (by unfold atomOk; rw [c4, Ju, Ju, Ju])
         | true =>
          right;refine ⟨j + 1, ⟨hj, fun i hi => ?_⟩, by omega, ?_⟩
          ·by_cases e : i = j
           ·subst e;unfold atomOk;rw [J2 c1, J2 c2, c3, c4]; rfl
           ·exact hok i (by omega)
          ·rw [Jc rfl, Y0];congr 1;exact Y1v fun v => (Y4c hj (v : Int)).symm
       ·left;rw [J5 c2, Jq, J3];exact bad (by unfold atomOk; rw [J5 c2, J1f, Ju])
      ·left;rw [J5 c1, Jq, J3];exact bad (by unfold atomOk; rw [J5 c1, J1f])
     ·left;have : j = as.length := by omega
      subst this;have hao : atomsOk l n as = true := J2 hok;simp only [zS, J10, Y81 (show n <= 4 by omega) hq hN, J19, hao, Ja];rfl) N 0 (by omega) ⟨by omega, fun i hi => by omega⟩
    exact this
   ·simp [hn, ha]
  ·simp [hn]
theorem Y82 {as : List Atm} {a : Atm} (has : as.length <= 1000) (hN : 1048576 < N) : Z7 N as a = some (as.any fun b => decide (b.1 = a.1)) := by
 unfold Z7 Z0c Z1r;rw [Yw (d := ((0, []) : Atm)) (xs := as) (p := fun b => decide (b.1 = a.1)) (first (n := as.length) (fun j => decide ((as.getD j (0, [])).1 = a.1)) (fun k i => Z9 N k as a (as.length : Int) i) (fun k => by simp [Z9, Z0t]) (fun k j hj => ?_) (by omega))];have h1 : (j : Int) < (as.length : Int) := by omega
 simp only [zS, Z9, Z0t, Z3f, h1, Y1 hj, Y4 hj, Y2 hj, Y0 (j := j), beqI];cases decide (as[j].1 = a.1) <;> rfl
def varsIn (ts : List Int) : List Int := ts.filter fun t => decide (0 <= t /\ t <= 3)
theorem Y73 {a : Atm} (ha : a.2.length <= 1000) (hN : 1048576 < N) : Z3b N a = some (setOf (varsIn a.2)) := by
 unfold Z3b Z8j varsIn;have := loop (fun k (q : Nat) => Z46 N k ((a.2.take q).filter fun t => decide (0 <= t /\ t <= 3)) a.2 (a.2.length : Int) (q : Int)) (fun q => q <= a.2.length) (fun q => a.2.length - q) (fun o => o = some (setOf (a.2.filter fun t => decide (0 <= t /\ t <= 3)))) (fun k q hq' => by
  simp only [Z46, Z70];by_cases hq : q < a.2.length
  ·right;refine ⟨q + 1, hq, by omega, ?_⟩;have h1 : (q : Int) < (a.2.length : Int) := by omega
   have hl := Jo (fun t => decide (0 <= t /\ t <= 3)) (a.2.take q);rw [Jn] at hl;simp only [zS, h1, Y1 hq, Y4 hq, Yh, Y0 (j := q)];rw [J7 hq, J1j];by_cases ht : 0 <= a.2[q] /\ a.2[q] <= 3
   ·rw [J2 ht, J3, Y3, grd_true];simp [ht]
   ·grind
  ·left;have : q = a.2.length := by omega
   subst this;have hl := Jo (fun t => decide (0 <= t /\ t <= 3)) a.2;simp only [zS, J10, J19];rw [Y69 (by omega) (by simp) hN, J0, Jf]) N 0 (by omega) (by omega)
 simpa using this
def varsOf (as : List Atm) : List Int := ((List.range 4).filter fun (v : Nat) => occB as (v : Int)).map fun (v : Nat) => (v : Int)
theorem Y38 {as : List Atm} {x : Int} : x ∈ varsOf as ↔ (0 <= x /\ x <= 3) /\ occB as x = true := by
 unfold varsOf;rw [Jg];constructor
 ·grind
 ·rintro ⟨h1, h2⟩
  exact ⟨x.toNat, Jv.2 ⟨Ji.2 (by omega), by rw [show ((x.toNat : Nat) : Int) = x by omega]; exact h2⟩, by omega⟩
theorem Y3z (as : List Atm) : (varsOf as).Pairwise (· < ·) := by
 unfold varsOf;rw [J17];exact (J28 _ J14).imp fun h => by omega
theorem Y5k (as : List Atm) : (varsOf as).length <= 4 := by
 unfold varsOf;rw [Jp];have := Jo (fun v : Nat => occB as (v : Int)) (List.range 4)
 rwa [Jr] at this
theorem Y50 {as : List Atm} {j : Nat} (hj : j < as.length) : setOf (varsOf (as.take j) ++ setOf (varsIn (atomAt as j).2)) = varsOf (as.take (j + 1)) := by
 refine Y37 (Y4b _) (Y3z _) fun x => ?_;rw [Y3j, Jx, Y3j, Y38, Y38, Y4c hj];unfold varsIn;rw [Jv, J6, J2i, J6];constructor
 ·grind
 ·grind
theorem Y5l {n : Nat} {as : List Atm} (hn : n <= 4) (hok : ∀ j, j < as.length -> termsOk n (atomAt as j).2 = true) : decide (((varsOf as).length : Int) = (n : Int)) = allOcc n as := by
 have hlt : ∀ v : Int, occB as v = true -> v <= (n : Int) - 1 := by
  intro v hv;obtain ⟨a, ha, hva⟩ := J21.1 hv;obtain ⟨j, hj, rfl⟩ := Jd.1 ha;have := hok j hj;rw [show atomAt as j = as[j] from Y2 hj] at this;exact (of_decide_eq_true (Jh.1 this v (of_decide_eq_true hva))).2
 have e : (varsOf as).length = ((List.range n).filter fun (v : Nat) => occB as (v : Int)).length := by
  unfold varsOf;rw [Jp];have e4 : List.range 4 = List.range n ++ (List.range (4 - n)).map (n + ·) := by
   rw [<- List.range_add, show n + (4 - n) = 4 by omega]
  rw [e4, J1j, Jz];have : ((List.range (4 - n)).map (n + ·)).filter (fun v : Nat => occB as (v : Int)) = [] := by
   rw [List.filter_eq_nil_iff];intro v hv;obtain ⟨k, _, rfl⟩ := Jg.1 hv;intro h;have := hlt _ h;omega
  rw [this]; rfl
 rw [e];unfold allOcc;rw [decide_eq_decide];have hl := Jo (fun v : Nat => occB as (v : Int)) (List.range n);rw [Jr] at hl;constructor
 ·intro h v hv;have h2 : ((List.range n).filter fun v : Nat => occB as (v : Int)).length = (List.range n).length := by grind
  exact J1g.1 h2 v (Ji.2 hv)
 ·intro h;have h2 : ((List.range n).filter fun v : Nat => occB as (v : Int)).length = (List.range n).length := J1g.2 fun v hv => h v (Ji.1 hv);rw [h2, Jr]
theorem Y6c {N n : Nat} {l : List Rel} {as : List Atm} {fr occ : List Int} {j : Nat} {a : Int} {ts : List Int} (hn : n <= 4) (hts : ts.length <= 3) (ho : occ.length <= 4) (hN : 1048576 < N) (R : List Rel -> Int -> List Atm -> List Int -> List Int -> List Atm -> Int -> Int -> Option Bool) :
  Z2p R N N l (n : Int) as fr occ a ts as (as.length : Int) (j : Int) ts (ts.length : Int) 0 = if termsOk n ts then R l (n : Int) as fr (setOf (occ ++ setOf (varsIn ts))) as (as.length : Int) (w64 ((j : Int) + 1)) else some false := by
 have hv := Y73 (N := N) (a := (a, ts)) (show ts.length <= 1000 by omega) hN;have hl1 : (varsIn ts).length <= 3 := Jj (Jo _ _) hts;have hl2 := Y68 (varsIn ts);have hu := Y69 (N := N) (a := occ) (b := setOf (varsIn ts)) (by omega) (by omega) hN;rw [Ya (n := ts.length) (fun k => decide (-10 <= ts.getD k 0 /\ ts.getD k 0 <= (n : Int) - 1)) (some false) (R l (n : Int) as fr (setOf (occ ++ setOf (varsIn ts))) as (as.length : Int) (w64 ((j : Int) + 1))) (fun k i => Z2p R N k l (n : Int) as fr occ a ts as (as.length : Int) (j : Int) ts (ts.length : Int) i) (fun k => by
  simp [Z2p, Z5d, J1, hv, hu]) (fun k i hi => by
  have h1 : (i : Int) < (ts.length : Int) := by omega
  simp only [zS, Z2p, Z5d, h1, Y1 hi, Y4 hi, Yh, Y5 (x := (n : Int) - 1), Y2 hi, Y0 (j := i)];cases decide (-10 <= ts[i] /\ ts[i] <= (n : Int) - 1) <;> simp) (by omega)]
 have e : termsOk n ts = decide (∀ k, k < ts.length -> decide (-10 <= ts.getD k 0 /\ ts.getD k 0 <= (n : Int) - 1) = true) := by
  unfold termsOk;rw [J15, J6];exact (Y3b (d := (0 : Int)) (p := fun t => decide (-10 <= t /\ t <= (n : Int) - 1))).symm
 rw [e];by_cases h : ∀ k, k < ts.length -> decide (-10 <= ts.getD k 0 /\ ts.getD k 0 <= (n : Int) - 1) = true
 ·grind
 ·grind
theorem Y6d {l : List Rel} {q : Qry} (hl : l.length <= 1048576) (hq : q.2.2.length <= 1048576) (hN : 1048576 < N) : Z3n N l q = some (validQ l q) := by
 obtain ⟨n, as, fr⟩ := q;simp only at hq;unfold Z3n Z90 validQ;rw [Y43 hl hN, J0, Yh, Yh];cases hv : validRels l with
 | false => rfl
 | true =>
  by_cases hn : 0 <= n /\ n <= 4
  ·by_cases ha : 1 <= (as.length : Int) /\ (as.length : Int) <= 3
   ·obtain ⟨n, rfl⟩ : ∃ m : Nat, n = (m : Int) := ⟨n.toNat, by omega⟩;simp only [zS, J2 hn, J2 ha, Ja, Jl];rw [Y3e (by omega) hq hN, J0];cases hfs : validSet n fr with
    | false => grind
    | true =>
     rw [J9, J1, Bool.and_true];have := loop (fun k (j : Nat) => Z3g N k l (n : Int) as fr (varsOf (as.take j)) as (as.length : Int) (j : Int)) (fun j => j <= as.length /\ ∀ i, i < j -> atomOk l n as i = true) (fun j => as.length - j) (fun o => o = some (atomsOk l n as && allOcc n as)) (fun k j hs => by
      obtain ⟨hj', hok⟩ := hs;simp only [Z3g, Z7q];by_cases hj : j < as.length
      ·have e1 : (j : Int) < (as.length : Int) := by omega
       have ea : atomAt as j = as[j] := Y2 hj;have bad : atomOk l n as j = false -> some false = some (atomsOk l n as && allOcc n as) := fun h => by
        have : atomsOk l n as = false := by
         unfold atomsOk;rw [J1x];intro hh;have := hh j hj;rw [h] at this;cases this
        rw [this]; rfl
       simp only [zS, e1, Y1 hj, Y4 hj, Yh, Y5 (x := (l.length : Int) - 1), <- ea];by_cases c1 : 0 <= (atomAt as j).1 /\ (atomAt as j).1 <= (l.length : Int) - 1
       ·obtain ⟨ar1, ar2⟩ := Y2v hv c1;rw [J2 c1, J9, J1, Y9 c1.1 (by omega), grd_true, bneI];rw [show (at_ (⟨#[]⟩, (0, 0)) l (atomAt as j).1).2.1 = arity l (atomAt as j).1 from rfl];by_cases c2 : ((atomAt as j).2.length : Int) = arity l (atomAt as j).1
        ·rw [J2 c2, J9, J1, Yl (by omega) (by omega) (by omega), grd_true, Jl, Y82 (by rw [Jn]; omega) hN, J0];rw [show ((as.take j).any fun b => decide (b.1 = (atomAt as j).1)) = !newRel as j from by unfold newRel; rw [Bool.not_not]];cases c3 : newRel as j with
         | false =>
          left;exact bad (by unfold atomOk; rw [c3, J1f, Ju, Ju])
         | true =>
          rw [J9, J1, Y6c (by omega) (by omega) (Y5k _) hN];cases c4 : termsOk n (atomAt as j).2 with
          | false =>
           left;exact bad (by unfold atomOk; rw [c4, Ju, Ju, Ju])
          | true =>
           right;refine ⟨j + 1, ⟨hj, fun i hi => ?_⟩, by omega, ?_⟩
           ·by_cases e : i = j
            ·subst e;unfold atomOk;rw [J2 c1, J2 c2, c3, c4]; rfl
            ·exact hok i (by omega)
           ·rw [Jc rfl, Y0, Y50 hj]
        ·left;rw [J5 c2, Jq, J3];exact bad (by unfold atomOk; rw [J5 c2, J1f, Ju])
       ·left;rw [J5 c1, Jq, J3];exact bad (by unfold atomOk; rw [J5 c1, J1f])
      ·left;have : j = as.length := by omega
       subst this;have hao : atomsOk l n as = true := J2 hok;have ht : ∀ j, j < as.length -> termsOk n (atomAt as j).2 = true := fun j hj => by
        have := hok j hj;unfold atomOk at this;simp at this;exact this.2.2.2
       simp only [zS, J10, J19, hao, Ja, beqI];rw [Y5l (by omega) ht]) N 0 (by omega) ⟨by omega, fun i hi => by omega⟩
     have e0 : varsOf (as.take 0) = [] := by unfold varsOf occB; simp
     simp [e0] at this;exact this
   ·simp [hn, ha]
  ·simp [hn]
def queryFor (d : Db) (q : Qry) : Bool := validDb d && validQ d.1 q
theorem Ye {d : Db} {q : Qry} (h : SmallDb d) (hq : q.2.2.length <= 1048576) (hN : 1048576 < N) : Z0d N d q = some (queryFor d q) := by
 unfold Z0d queryFor;rw [Yf h hN, J0];cases validDb d with
 | false => rfl
 | true => rw [J3, Y6b h.rels hq hN]; rfl
theorem Yj {d : Db} {q : Qry} (h : SmallDb d) (hq : q.2.2.length <= 1048576) (hN : 1048576 < N) : Z0i N d q = some (queryFor d q) := by
 unfold Z0i queryFor;rw [Y24 h hN, J0];cases validDb d with
 | false => rfl
 | true => rw [J3, Y6d h.rels hq hN]; rfl
theorem Yx {σ R : Type} (f : Nat -> σ -> Option R) (I : σ -> Prop) (μ : σ -> Nat) (Q : Option R -> Prop) (hstep : ∀ k s, I s -> (∀ s', I s' -> μ s' < μ s -> Q (f k s')) -> Q (f (k + 1) s)) : ∀ (k : Nat) (s : σ), μ s < k -> I s -> Q (f k s)
 | 0, s, hk, hs => by omega
 | k + 1, s, hk, hs => hstep k s hs fun s' h1 h2 => Yx f I μ Q hstep k s' (by omega) h1
structure QD (m : Nat) (q : Qry) : Prop where
 vars : q.1 <= 101
 atoms : 1 <= q.2.1.length /\ q.2.1.length <= 100
 terms : ∀ a ∈ q.2.1, 1 <= a.2.length /\ a.2.length <= 100
 free : q.2.2.length <= m
theorem QD.mono {m n : Nat} {q : Qry} (h : QD m q) (hn : m <= n) : QD n q := ⟨h.vars, h.atoms, h.terms, Jj h.free hn⟩
theorem Y8r {N m : Nat} {q : Qry} (h : QD m q) (hm : m <= 1000) (hN : 1048576 < N) : Z6j N q = some q := by
 have ha := h.atoms;have hf := h.free;unfold Z6j Z0b2;rw [Y3, grd_true];have := loop (fun k (s : Nat) => Z77 N k q.1 q.2.1 q.2.2 0 [] [] q.1 (q.2.1.take s) q.2.2 (s : Int)) (fun s => s <= q.2.1.length) (fun s => q.2.1.length - s) (fun o => o = some q) (fun k j hs => by
  simp only [Z77, Z9u];by_cases hj : j < q.2.1.length
  ·right;refine ⟨j + 1, hj, by omega, ?_⟩;have h1 : (j : Int) < (q.2.1.length : Int) := by omega
   have h3 := h.terms _ (J4 hj);simp only [zS, h1, Y1 hj, Y4 hj];rw [Y3, grd_true, Y3, grd_true, Y0, J7 hj]
  ·grind) N 0 (by omega) (by omega)
 simpa using this
def Shp (L : List Nat) (x : List Atm) : Prop := x.map (fun a => a.2.length) = L
theorem Shp.len {L : List Nat} {x : List Atm} (h : Shp L x) : x.length = L.length := by rw [<- h, Jp]
theorem Shp.at {L : List Nat} {x : List Atm} (h : Shp L x) {i : Nat} (hi : i < x.length) : (x[i]).2.length = L[i]'(by rw [<- h.len]; exact hi) := by
 subst h;simp
theorem Shp.set {L : List Nat} {x : List Atm} (h : Shp L x) {i : Nat} (hi : i < x.length) (a : Int) (k : Nat) (v : Int) : Shp L (x.set i (a, (x[i]).2.set k v)) := by
 unfold Shp at h ⊢;rw [List.map_set];subst h;simp;apply List.ext_getElem
 ·simp
 ·grind
theorem Y8f {N K : Nat} {R} {Q : Option Qry -> Prop} {a b : Int} {e : List Atm} {f g : List Int} {t : Int} {L : List Nat} {x : List Atm} {name : List Int} {i k m : Nat} (hx : Shp L x) (hi : i < x.length) (hk : k < (x[i]).2.length) (hn : name.length <= m) (hm : m <= 1000) (hk2 : k <= 1000) (hK : name.length < K)
  (hQ : ∀ x' name', Shp L x' -> name'.length <= m + 1 -> Q (R a e f b x' g name' (i : Int) ((k + 1 : Nat) : Int))) : Q (Z51 R N K a e f b x g name (i : Int) (k : Int) t (-1) 0) := by
 have := loop (fun K (s : Int × Nat) => Z51 R N K a e f b x g name (i : Int) (k : Int) t s.1 (s.2 : Int)) (fun s => s.2 <= name.length) (fun s => name.length - s.2) Q (fun K s hs => by
  obtain ⟨at_', j⟩ := s;simp only at hs ⊢;simp only [Z51, Z9e];by_cases hj : j < name.length
  ·right;have h1 : (j : Int) < (name.length : Int) := by omega
   simp only [zS, h1, Y1 hj, Y4 hj];cases (name[j] == t) with
   | true => exact ⟨((j : Int), j + 1), hj, by simp only; omega, by rw [J3, Y0]⟩
   | false => exact ⟨(at_', j + 1), hj, by simp only; omega, by rw [J1, Y0]⟩
  ·left;have h1 : ¬ (j : Int) < (name.length : Int) := by omega
   have hap : appOk name [t] 8 = true := Y3;simp only [zS, h1, Y1 hi, Y4 hi, Y1 hk, Jl, letv_eq, hap, Y0 (j := k)];cases decide (at_' < 0) with
   | true => rw [J3]; exact hQ _ _ (hx.set hi _ _ _) (by simp; omega)
   | false => rw [J1]; exact hQ _ _ (hx.set hi _ _ _) (by omega)) K (-1, 0) (by simp only; omega) (by simp)
 exact this
theorem Y8g {N K : Nat} {R0} {Q : Option Qry -> Prop} {a b : Int} {e : List Atm} {f g : List Int} {L : List Nat} {x : List Atm} {name : List Int} {i m : Nat} (hL : ∀ n ∈ L, n <= 3) (hx : Shp L x) (hi : i < x.length) (hn : name.length <= m) (hm : m <= 800) (hK : 4 < K) (hN : 1048576 < N)
  (hQ : ∀ x' name', Shp L x' -> name'.length <= m + 3 -> Q (R0 a e f b x' g name' ((i + 1 : Nat) : Int))) (hi2 : i <= 1000) : Q (Z42 R0 N K a e f b x g name (i : Int) 0) := by
 have := Yx (fun K (s : List Atm × List Int × Nat) => Z42 R0 N K a e f b s.1 g s.2.1 (i : Int) (s.2.2 : Int)) (fun s => Shp L s.1 /\ s.2.2 <= L[i]'(by rw [<- hx.len]; exact hi) /\ s.2.1.length <= m + s.2.2) (fun s => L[i]'(by rw [<- hx.len]; exact hi) - s.2.2) Q (fun K s hs ih => by
  obtain ⟨x, name, k⟩ := s;obtain ⟨h1, h2, h3⟩ := hs;simp only at h1 h2 h3 ⊢;have hL1 := hL _ (J4 (show i < L.length by grind));have hi' : i < x.length := by rw [h1.len, <- hx.len]; exact hi
  have hlen := h1.at hi';simp only [Z42, Z9f];by_cases hk : k < (x[i]).2.length
  ·have c1 : (k : Int) < ((x[i]).2.length : Int) := by omega
   simp only [zS, Y1 hi', Y4 hi', c1, Y1 hk, Y4 hk];cases decide ((x[i]).2[k] < 0) with
   | true =>
    rw [J3, Y0];exact ih (x, name, k + 1) ⟨h1, by simp only; omega, by simp only; omega⟩ (by grind)
   | false =>
    rw [J1];exact Y8f h1 hi' hk h3 (by omega) (by omega) (by omega) (fun x' name' s1 s2 => ih (x', name', k + 1) ⟨s1, by simp only; omega, by simp only; omega⟩ (by grind))
  ·have c1 : ¬ (k : Int) < ((x[i]).2.length : Int) := by omega
   simp only [zS, Y1 hi', Y4 hi', c1];rw [Y0];exact hQ x name h1 (by omega)) K (x, name, 0) (by have := hL _ (J4 (show i < L.length by rw [<- hx.len]; exact hi)); simp only; omega) ⟨hx, by simp, by simpa using hn⟩
 exact this
theorem Y83 {q : Qry} (h : QD 0 q) (ha : q.2.1.length <= 3) (ht : ∀ a ∈ q.2.1, a.2.length <= 3) (hN : 1048576 < N) : ∃ q', Z62 N q = some q' /\ QD 0 q' := by
 have hat := h.atoms;unfold Z62 Z0am;rw [Y8r h (by omega) hN, J0];have hL : ∀ n ∈ q.2.1.map (fun a => a.2.length), n <= 3 := by grind
 have := Yx (fun K (s : List Atm × List Int × Nat) => Z52 N K 0 [] [] q.1 s.1 q.2.2 s.2.1 (s.2.2 : Int)) (fun s => Shp (q.2.1.map (fun a => a.2.length)) s.1 /\ s.2.2 <= q.2.1.length /\ s.2.1.length <= 3 * s.2.2) (fun s => q.2.1.length - s.2.2) (fun o => ∃ q', o = some q' /\ QD 0 q') (fun K s hs ih => by
  obtain ⟨x, name, i⟩ := s;obtain ⟨h1, h2, h3⟩ := hs;simp only at h1 h2 h3 ⊢;have hlen := h1.len;rw [Jp] at hlen;simp only [Z52, Z9g];by_cases hi : i < x.length
  ·have c1 : (i : Int) < (x.length : Int) := by omega
   simp only [zS, c1];exact Y8g (Q := fun o => ∃ q', o = some q' /\ QD 0 q') hL h1 hi h3 (by omega) (by omega) hN (fun x' name' s1 s2 => ih (x', name', i + 1) ⟨s1, by simp only; omega, by simp only; omega⟩ (by simp only; omega)) (by omega)
  ·have c1 : ¬ (i : Int) < (x.length : Int) := by omega
   simp only [zS, c1];refine ⟨_, rfl, ⟨by simp only; omega, by simp only; omega, ?_, h.free⟩⟩;intro a hx;have : a.2.length ∈ q.2.1.map (fun a => a.2.length) := by rw [<- h1]; exact List.mem_map_of_mem (f := fun a : Atm => a.2.length) hx
   obtain ⟨a0, k1, k2⟩ := Jg.1 this;rw [<- k2];exact h.terms a0 k1) N (q.2.1, [], 0) (by simp only; omega) ⟨rfl, by simp, by simp⟩
 exact this
def AtsD (n : Nat) (as : List Atm) : Prop := as.length = n /\ ∀ a ∈ as, 1 <= a.2.length /\ a.2.length <= 3
theorem Y8h {N K n : Nat} {R0} {Q : Option (Ctx × Qry) -> Prop} {c : Ctx} {as : List Atm} {vars from_ r : Int} {i m : Nat} (hc : COk c) (has : AtsD i as) (hi : i <= 10) (hm : 1 <= m /\ m <= 3) (hK : 4 < K)
  (hQ : ∀ p as', COk (c.1, p) -> AtsD (i + 1) as' -> Q (R0 c.1 p.1 p.2 0 [] [] 0 as' [] (n : Int) vars from_ ((i + 1 : Nat) : Int))) : Q (Z53 R0 N K c.1 c.2.1 c.2.2 0 [] [] 0 as [] (n : Int) vars from_ (i : Int) r [] (m : Int)) := by
 have := Yx (fun K (s : (Int × Int) × List Int × Nat) => Z53 R0 N K c.1 s.1.1 s.1.2 0 [] [] 0 as [] (n : Int) vars from_ (i : Int) r s.2.1 (s.2.2 : Int)) (fun s => COk (c.1, s.1) /\ s.2.1.length + s.2.2 = m) (fun s => s.2.2) Q (fun K s hs ih => by
  obtain ⟨p, a2, k⟩ := s;obtain ⟨h1, h2⟩ := hs;simp only at h1 h2 ⊢;simp only [Z53, Z9h];by_cases hk : (k : Int) > 0
  ·obtain ⟨p2, b, e, hp2, _⟩ := Y1o (N := N) (c := (c.1, p.1, p.2)) (n := 12) h1;simp only [zS, hk, e];cases b with
   | true =>
    obtain ⟨p3, y, e3, hp3, _⟩ := Y7 (N := N) (c := (c.1, p2)) (n := 2) hp2;simp only at e3;simp only [zS, e3];rw [Y3, grd_true, Y8 (by omega) (by omega)];exact ih (p3, a2 ++ [w64 (-1 - y)], k - 1) ⟨hp3, by simp; omega⟩ (by grind)
   | false =>
    obtain ⟨p3, y, e3, hp3, _⟩ := Y7 (N := N) (c := (c.1, p2)) (n := vars) hp2;simp only at e3;simp only [zS, e3];rw [Y3, grd_true, Y8 (by omega) (by omega)];exact ih (p3, a2 ++ [y], k - 1) ⟨hp3, by simp; omega⟩ (by grind)
  ·simp only [zS, hk];have ha := has.1;rw [Y3, grd_true, Y0];refine hQ p _ h1 ⟨by simp [ha], fun a hx => ?_⟩;simp at hx;rcases hx with hx | rfl
   ·exact has.2 a hx
   ·grind) K (c.2, [], m) (by simp only; omega) ⟨hc, by simp⟩
 exact this
theorem Y84 {c : Ctx} (h : COk c) (hN : 1048576 < N) : Dr c (Z72 N c) (QD 0) := by
 refine (Y7 h).bind fun p n hp hn => ?_;refine (Y7 (c := (c.1, p)) hp).bind fun p2 v hp2 hv => ?_;refine (Y7 (c := (c.1, p2)) hp2).bind fun p3 fr hp3 hf => ?_;obtain ⟨n, rfl⟩ : ∃ k : Nat, n = k := ⟨n.toNat, by omega⟩;obtain ⟨fr, rfl⟩ : ∃ k : Nat, fr = k := ⟨fr.toNat, by omega⟩;rw [show w64 (1 + (n : Int)) = ((n + 1 : Nat) : Int) by rw [Y5]; omega];have := Yx (fun K (s : (Int × Int) × List Atm × Nat) => Z54 N K c.1 s.1.1 s.1.2 0 [] [] 0 s.2.1 [] ((n + 1 : Nat) : Int) (w64 (1 + v)) (fr : Int) (s.2.2 : Int)) (fun s => COk (c.1, s.1) /\ AtsD s.2.2 s.2.1 /\ s.2.2 <= n + 1) (fun s => n + 1 - s.2.2) (fun o => Dr c o (QD 0)) (fun K s hs ih => by
  obtain ⟨p, as, i⟩ := s;obtain ⟨h1, h2, h3⟩ := hs;simp only at h1 h2 h3 ⊢;simp only [Z54, Z9i];by_cases hi : (i : Int) < ((n + 1 : Nat) : Int)
  ·have e1 : w64 ((fr : Int) + (i : Int)) = ((fr + i : Nat) : Int) := by rw [Y5]; omega
   have e2 : ((fr + i : Nat) : Int).tmod 4 = (((fr + i) % 4 : Nat) : Int) := rfl;have e3 : (((fr + i) % 4 : Nat) : Int).tdiv 3 = (((fr + i) % 4 / 3 : Nat) : Int) := rfl;have e4 : w64 (2 + w64 (((fr + i) % 4 / 3 : Nat) : Int)) = ((2 + (fr + i) % 4 / 3 : Nat) : Int) := by
    rw [Y5 (x := (((fr + i) % 4 / 3 : Nat) : Int)), Y5]; omega
   simp only [zS, hi, Y23 (show (4 : Int) ≠ 0 by decide), Y23 (show (3 : Int) ≠ 0 by decide), e1, e2, e3, e4];exact Y8h (Q := fun o => Dr c o (QD 0)) (c := (c.1, p)) (m := 2 + (fr + i) % 4 / 3) h1 h2 (by omega) (by omega) (by omega) (fun p' as' k1 k2 => ih (p', as', i + 1) ⟨k1, k2, by simp only; omega⟩ (by grind))
  ·have e : i = n + 1 := by omega
   subst e;have q1 : QD 0 ((0, as, []) : Qry) := ⟨by simp, by simp only; have := h2.1; omega, fun a hx => by have := h2.2 a hx; omega, by simp⟩;obtain ⟨q', e1, e2⟩ := Y83 (N := N) q1 (by simp only; have := h2.1; omega) (fun a hx => (h2.2 a hx).2) hN;simp [hi, J1, e1];exact Dr.ret (c := c) (p := p) h1 e2) N (p3, [], 0) (by simp only; omega) ⟨hp3, ⟨rfl, by simp⟩, by simp⟩
 exact this
def qdB (q : Qry) : Bool := decide (q.1 <= 101) && (decide (1 <= q.2.1.length /\ q.2.1.length <= 100) && ((q.2.1.all fun a => decide (1 <= a.2.length /\ a.2.length <= 100)) && decide (q.2.2.length <= 0)))
theorem Y4d {q : Qry} (h : qdB q = true) : QD 0 q := by
 simp only [qdB, J8, J6, Jh] at h;exact ⟨h.1, h.2.1, h.2.2.1, h.2.2.2⟩
def okP (o : Option (Qry × Bool)) : Bool := match o with
 | some (q, b) => !b || qdB q
 | none => false
def okT (o : Option (Qry × Bool)) : Bool := match o with
 | some (q, b) => b && qdB q
 | none => false
theorem Y74 {o : Option (Qry × Bool)} (h : okP o = true) : ∃ q b, o = some (q, b) /\ (b = true -> QD 0 q) := by
 unfold okP at h;split at h
 ·rename_i q b;refine ⟨q, b, rfl, fun hb => Y4d ?_⟩;subst hb;simpa using h
 ·simp at h
theorem Y75 {o : Option (Qry × Bool)} (h : okT o = true) : ∃ q, o = some (q, true) /\ QD 0 q := by
 unfold okT at h;split at h
 ·rename_i q b;simp only [J8] at h;obtain ⟨rfl, h2⟩ := h;exact ⟨q, rfl, Y4d h2⟩
 ·simp at h
def knownS : List ByteArray := [⟨#[63, 114, 120, 124, 121, 32, 115, 121, 124, 122]⟩, ⟨#[63, 114, 120, 124, 121, 32, 115, 121, 124, 120]⟩, ⟨#[63, 114, 120, 124, 121, 32, 115, 122, 124, 121]⟩, ⟨#[63, 114, 120, 124, 121, 32, 115, 120, 124, 122]⟩, ⟨#[63, 114, 120, 124, 49]⟩, ⟨#[63, 114, 120, 124, 120]⟩, ⟨#[63, 114, 120, 124, 121, 32, 115, 121, 124, 49]⟩, ⟨#[63, 114, 120, 124, 121, 32, 115, 121, 124, 122, 32, 114]⟩, ⟨#[63, 114, 120, 124, 121]⟩, ⟨#[63, 114, 120, 124, 122, 32, 115, 121, 124, 122]⟩]
theorem Y6e (M : Nat) : ((([(0, 1), (0, 2), (1, 1), (1, 2), (2, 1), (2, 2)] : List (Int × Int)).all fun z => okT (Z2d (M + 60) (rels4 z.1 z.2) ⟨#[63, 114, 120, 124, 121, 32, 115, 121, 124, 122]⟩) && knownS.all fun s => okP (Z2d (M + 60) (rels4 z.1 z.2) s))) = true := by
 kernel_rfl
theorem Y76 {l : List Rel} (hl : RelsD l) (hN : 1048576 < N) : (∃ q, Z2d N l ⟨#[63, 114, 120, 124, 121, 32, 115, 121, 124, 122]⟩ = some (q, true) /\ QD 0 q) /\ ∀ s ∈ knownS, ∃ q b, Z2d N l s = some (q, b) /\ (b = true -> QD 0 q) := by
 obtain ⟨_, _, x, y, hx, hy, rfl⟩ := hl;obtain ⟨M, rfl⟩ : ∃ M, N = M + 60 := ⟨N - 60, by omega⟩;have h := Y6e M;rw [Jh] at h;have hm : ((x, y) : Int × Int) ∈ ([(0, 1), (0, 2), (1, 1), (1, 2), (2, 1), (2, 2)] : List (Int × Int)) := by
  rcases hx with rfl | rfl | rfl <;> rcases hy with rfl | rfl <;> simp
 have h1 := h _ hm;simp only [J8, Jh] at h1;exact ⟨Y75 h1.1, fun s hs => Y74 (h1.2 s hs)⟩
theorem Y85 {c : Ctx} {l : List Rel} (h : COk c) (hl : RelsD l) (hN : 1048576 < N) : Dr c (Z4q N c l) (QD 0) := by
 obtain ⟨⟨q0, e0, h0⟩, hk⟩ := Y76 hl hN;unfold Z4q;refine (Y7v h (by decide)).bind fun p s hp hs => ?_;obtain ⟨q, b, e, hq⟩ := hk s hs;simp only [e, J0];cases b with
 | true =>
  rw [J9, J1];exact Dr.ret (c := c) hp (hq rfl)
 | false =>
  simp only [zS, e0];exact Dr.ret (c := c) hp h0
theorem Y6f {c : Ctx} {q : Qry} (h : COk c) (hq : QD 0 q) (hN : 1048576 < N) : Dr c (Z5v N N c.1 c.2.1 c.2.2 0 [] [] q.1 q.2.1 q.2.2 0) (QD 101) := by
 have hv := hq.vars;have hf := hq.free;have := Yx (fun K (s : (Int × Int) × List Int × Nat) => Z5v N K c.1 s.1.1 s.1.2 0 [] [] q.1 q.2.1 s.2.1 (s.2.2 : Int)) (fun s => COk (c.1, s.1) /\ s.2.1.length <= s.2.2 /\ s.2.2 <= 101) (fun s => 101 - s.2.2) (fun o => Dr c o (QD 101)) (fun K s hs ih => by
  obtain ⟨p, fr, v⟩ := s;obtain ⟨h1, h2, h3⟩ := hs;simp only at h1 h2 h3 ⊢;simp only [Z5v, Z9x];by_cases hc : (v : Int) < q.1
  ·obtain ⟨p2, b, e, hp2, _⟩ := Y1o (N := N) (c := (c.1, p.1, p.2)) (n := 3) h1;simp only [zS, hc, e];cases b with
   | true =>
    rw [J3, Y3, grd_true, Y0];exact ih (p2, fr ++ [(v : Int)], v + 1) ⟨hp2, by simp; omega, by simp only; omega⟩ (by simp only; omega)
   | false =>
    rw [J1, Y0];exact ih (p2, fr, v + 1) ⟨hp2, by simp only; omega, by simp only; omega⟩ (by simp only; omega)
  ·simp only [zS, hc];exact Dr.ret (c := c) (p := p) h1 ⟨hv, hq.atoms, hq.terms, by simp only; omega⟩) N (c.2, q.2.2, 0) (by simp only; omega) ⟨h, by simpa using hf, by simp⟩
 exact this
theorem Y7q {c : Ctx} {l : List Rel} (h : COk c) (hl : RelsD l) (hN : 1048576 < N) : Dr c (Z4f N c l) (QD 101) := by
 unfold Z4f Z0b3;refine (Y84 h hN).bind fun p q hp hq => ?_;refine (Y1o (c := (c.1, p)) hp).bind fun p2 b hp2 _ => ?_;cases b with
 | true =>
  rw [J3];refine (Y85 (c := (c.1, p2)) hp2 hl hN).bind fun p3 q3 hp3 hq3 => ?_;refine (Y1o (c := (c.1, p3)) hp3).bind fun p4 b4 hp4 _ => ?_;cases b4 with
  | true => rw [J3]; exact Y6f (c := (c.1, p4)) hp4 hq3 hN
  | false => rw [J1]; exact Dr.ret (c := c) hp4 (hq3.mono (by omega))
 | false =>
  rw [J1];refine (Y1o (c := (c.1, p2)) hp2).bind fun p4 b4 hp4 _ => ?_;cases b4 with
  | true => rw [J3]; exact Y6f (c := (c.1, p4)) hp4 hq hN
  | false => rw [J1]; exact Dr.ret (c := c) hp4 (hq.mono (by omega))
theorem anyQ {c : Ctx} {l : List Rel} (h : COk c) (hl : RelsD l) (hN : 1048576 < N) : Dr c (Z6e N c l) (fun q => q.2.2.length <= 200) := by
 unfold Z6e;refine (Y7q h hl hN).bind fun p q hp hq => ?_;have ha := hq.atoms;have hf := hq.free;refine (Y7 (c := (c.1, p)) hp).bind fun p2 x hp2 hx => ?_;cases (x == 0) with
 | true =>
  rw [J3];refine (Y1n (c := (c.1, p2)) hp2 (by simp)).bind fun p3 y hp3 hy => ?_;exact Dr.ret (c := c) hp3 (by simp only; omega)
 | false =>
  rw [J1];cases (x == 1) with
  | true =>
   rw [J3];refine (Y7 (c := (c.1, p2)) hp2).bind fun p3 y hp3 hy => ?_;simp only;rw [Y3, grd_true];exact Dr.ret (c := c) hp3 (by simp only; omega)
  | false =>
   rw [J1];cases (x == 2) with
   | true =>
    have h0 : 0 < q.2.1.length := by omega
    have ht := hq.terms _ (J4 h0);have e0 : inb 0 q.2.1 = true := Y9 (by omega) (by omega);have e1 : at_ ((0, []) : Atm) q.2.1 0 = q.2.1[0] := Y18 (by omega) (by omega);simp only [zS, e0, e1];refine (Y1n (c := (c.1, p2)) hp2 (by decide)).bind fun p3 y hp3 hy => ?_;simp only [Y9 (i := 0) (xs := (q.2.1[0]).2) (by omega) (by omega), grd_true, letv_eq];exact Dr.ret (c := c) hp3 (by simp only; omega)
   | false =>
    rw [J1];cases (x == 3) with
    | true =>
     rw [J3];refine (Y7 (c := (c.1, p2)) hp2).bind fun p3 y hp3 hy => ?_;simp only;rw [Y3, grd_true];exact Dr.ret (c := c) hp3 (by simp; omega)
    | false =>
     rw [J1];exact Dr.ret (c := c) hp2 (by simp only; omega)
theorem cut1 {N K : Nat} {c : Ctx} {l : List Rel} {fs : List Fact} (hc : COk c) (hl : RelsD l) (hd : DbD 20 (l, fs)) (hK : 30 < K) : Dr c (Z71 N K c.1 c.2.1 c.2.2 [] [] l fs) (fun d => RelsD d.1 /\ DbD 20 d) := by
 have := Yx (fun K (s : List Fact) => Z71 N K c.1 c.2.1 c.2.2 [] [] l s) (fun s => DbD 20 (l, s)) (fun s => s.length) (fun o => Dr c o (fun d => RelsD d.1 /\ DbD 20 d)) (fun K s hs ih => by
  have hf : s.length <= 20 := hs.facts;simp only [Z71, Z0ak];by_cases h9 : (s.length : Int) > 9
  ·have e : w64 ((s.length : Int) - 1) = ((s.length - 1 : Nat) : Int) := Y8 (by omega) (by omega);have s2 : subOk 0 ((s.length - 1 : Nat) : Int) s.length = true := by simp [subOk] <;> omega
   simp only [zS, h9, e, s2, Jl];refine ih _ ⟨hs.rels, ?_, fun f hx => hs.vals f (J27 hx)⟩ (by rw [Jn]; omega);simp only [Jn];omega
  ·simp only [zS, h9];exact Dr.ret (c := c) (p := c.2) hc ⟨hl, hs⟩) K fs (by have : fs.length <= 20 := hd.facts; omega) hd
 exact this
theorem Y8s {c : Ctx} (h : COk c) (hN : 1048576 < N) : Dr c (Z8h N c) (fun d => RelsD d.1 /\ DbD 20 d) := by
 unfold Z8h Z0bs;refine (dbOk h hN).bind fun p d hp hd => ?_;have hf := hd.2.facts;obtain ⟨M, rfl⟩ : ∃ M, N = M + 1 := ⟨N - 1, by omega⟩;simp only [Z0a5, Z0al];by_cases h9 : (d.2.length : Int) > 9
 ·have e : w64 ((d.2.length : Int) - 1) = ((d.2.length - 1 : Nat) : Int) := Y8 (by omega) (by omega);have s2 : subOk 0 ((d.2.length - 1 : Nat) : Int) d.2.length = true := by simp [subOk] <;> omega
  simp only [zS, h9, e, s2, Jl];refine cut1 (c := (c.1, p)) hp hd.1 ⟨hd.2.rels, ?_, fun f hx => hd.2.vals f (J27 hx)⟩ (by omega);simp only [Jn];omega
 ·simp only [zS, h9];exact Dr.ret (c := c) hp hd
theorem Y8i {code : List Int} (hc : code.length <= 1048576) (hN : 1048576 < N) : ∃ c d q, Z5j N code = some (c, d, q) /\ COk c /\ DbD 20 d /\ q.2.2.length <= 200 := by
 obtain ⟨c, e1, hc1⟩ := Y8o (N := N) hc hN;obtain ⟨p, d, e2, hp, hd⟩ := Y8s hc1 hN;obtain ⟨p2, q, e3, hp2, hq⟩ := Y7q (N := N) (c := (c.1, p)) hp hd.1 hN;obtain ⟨p3, b, e4, hp3, _⟩ := Y1o (N := N) (c := (c.1, p2)) (n := 20) hp2;have hf := hq.free;unfold Z5j;simp only at e3 e4;simp only [e1, J0, e2, e3, e4];cases b with
 | true =>
  obtain ⟨p4, q4, e5, hp4, hq4⟩ := anyQ (N := N) (c := (c.1, p3)) hp3 hd.1 hN;simp only at e5;simp only [zS, e5];exact ⟨_, _, _, rfl, hp4, hd.2, by omega⟩
 | false =>
  rw [J1];exact ⟨_, _, _, rfl, hp3, hd.2, by omega⟩
theorem Y8j {c : Ctx} (h : COk c) : Dr c (Z6f N c) (fun _ => True) := by
 unfold Z6f;refine (Y7 h).bind fun p1 x1 hp1 _ => ?_;refine (Y7 (c := (c.1, p1)) hp1).bind fun p2 x2 hp2 _ => ?_;refine (Y7 (c := (c.1, p2)) hp2).bind fun p3 x3 hp3 _ => ?_;refine (Y7 (c := (c.1, p3)) hp3).bind fun p4 x4 hp4 _ => ?_;refine (Y7 (c := (c.1, p4)) hp4).bind fun p5 x5 hp5 _ => ?_;refine (Y7 (c := (c.1, p5)) hp5).bind fun p6 x6 hp6 _ => ?_;refine (Y7 (c := (c.1, p6)) hp6).bind fun p7 x7 hp7 _ => ?_;refine (Y7 (c := (c.1, p7)) hp7).bind fun p8 x8 hp8 _ => ?_;cases (x8 == 0) with
 | true =>
  rw [J3];refine (Y1n (c := (c.1, p8)) hp8 (by decide)).bind fun p9 y hp9 _ => ?_;exact Dr.ret (c := c) hp9 trivial
 | false =>
  rw [J1];cases (x8 == 1) with
  | true =>
   rw [J3];refine (Y1n (c := (c.1, p8)) hp8 (by decide)).bind fun p9 y hp9 _ => ?_;exact Dr.ret (c := c) hp9 trivial
  | false =>
   rw [J1];cases (x8 == 2) with
   | true =>
    rw [J3];refine (Y7 (c := (c.1, p8)) hp8).bind fun p9 y hp9 _ => ?_;exact Dr.ret (c := c) hp9 trivial
   | false =>
    rw [J1];exact Dr.ret (c := c) hp8 trivial
theorem Y8k {c : Ctx} (h : COk c) (hN : 1048576 < N) : Dr c (Z7n N c) (fun l => l.length <= 3) := by
 unfold Z7n Z0bc;refine (Y7 h).bind fun p n hp hn => ?_;have n1 := hn.1;have n2 := hn.2.1 (by decide);obtain ⟨n, rfl⟩ : ∃ k : Nat, n = k := ⟨n.toNat, by omega⟩;have := Yx (fun K (s : (Int × Int) × List (Int × Int × Int × Int × Int × Int × Int) × Nat) => Z84 N K c.1 s.1.1 s.1.2 s.2.1 (s.2.2 : Int)) (fun s => COk (c.1, s.1) /\ s.2.1.length + s.2.2 <= 3) (fun s => s.2.2) (fun o => Dr c o (fun l => l.length <= 3)) (fun K s hs ih => by
  obtain ⟨p, l, k⟩ := s;obtain ⟨h1, h2⟩ := hs;simp only at h1 h2 ⊢;simp only [Z84, Z0a9];by_cases hk : (k : Int) > 0
  ·obtain ⟨p2, x, e, hp2, _⟩ := Y8j (N := N) (c := (c.1, p.1, p.2)) h1;simp only [zS, hk, e];rw [Y3, grd_true, Y8 (by omega) (by omega)];exact ih (p2, l ++ [x], k - 1) ⟨hp2, by simp; omega⟩ (by simp only; omega)
  ·simp only [zS, hk];exact Dr.ret (c := c) (p := p) h1 (by omega)) N (p, [], n) (by simp only; omega) ⟨hp, by simp; omega⟩
 exact this
theorem Y8l {code : List Int} (hc : code.length <= 1048576) (hN : 1048576 < N) : ∃ c d l q, Z5k N code = some (c, d, l, q) /\ COk c /\ DbD 20 d /\ l.length <= 3 /\ q.2.2.length <= 200 := by
 obtain ⟨c, d, q, e1, hc1, hd, hq⟩ := Y8i (N := N) hc hN;obtain ⟨p, l, e2, hp, hl⟩ := Y8k (N := N) hc1 hN;unfold Z5k;simp only [e1, J0, e2];exact ⟨_, d, l, q, rfl, hp, hd, hl, hq⟩
theorem Y5m {code : List Int} (hc : code.length <= 1048576) (hN : 1048576 < N) : ∃ d l q, Z0o N code = some (d, l, q) /\ DbD 20 d /\ l.length <= 3 /\ q.2.2.length <= 200 := by
 obtain ⟨c, d, l, q, e1, hc1, hd, hl, hq⟩ := Y8l (N := N) hc hN;unfold Z0o;simp only [e1, J0];exact ⟨d, l, q, rfl, hd, hl, hq⟩
theorem Y1b {β R : Type} {n m B lo : Nat} (piece : Nat -> List β) {f : Nat -> List β -> Int -> Option R} {g : List β -> Option R} (hp : ∀ j, (piece j).length <= m) (hend : ∀ k out, f (k + 1) out (n : Int) = g out)
  (hstep : ∀ k out j, lo <= j -> j < n -> out.length <= B -> f (k + 1) out (j : Int) = f k (out ++ piece j) ((j + 1 : Nat) : Int)) : ∀ {k j : Nat} {out : List β}, n - j < k -> lo <= j -> j <= n -> out.length + (n - j) * m <= B -> f k out (j : Int) = g (out ++ (List.range' j (n - j)).flatMap piece)
 | 0, j, out, hk, hlo, hj, hB => by omega
 | k + 1, j, out, hk, hlo, hj, hB => by
  by_cases h : j < n
  ·have e : n - j = (n - (j + 1)) + 1 := by omega
   rw [e, Nat.add_mul] at hB;have := hp j;rw [hstep k out j hlo h (by omega), Y1b piece hp hend hstep (by omega) (by omega) (by omega) (by grind)];rw [e, List.range'_succ, J16, J18]
  ·have : j = n := by omega
   subst this;rw [hend, Nat.sub_self]; simp
abbrev Con := Int × Int × Int × Int × Int × Int × Int
def arOf (d : Db) (r : Int) : Int := (d.1.getD r.toNat (⟨#[]⟩, 0, 0)).2.1
def inR (x a b : Int) : Bool := decide (a <= x /\ x <= b)
def conOk (d : Db) (x : Con) : Bool := inR x.1 0 ((d.1.length : Int) - 1) && (inR x.2.1 0 ((d.1.length : Int) - 1) && (inR x.2.2.1 0 (arOf d x.1 - 1) && (inR x.2.2.2.2.1 0 (arOf d x.1 - 1) && (inR x.2.2.2.1 0 (arOf d x.2.1 - 1) && (inR x.2.2.2.2.2.1 0 (arOf d x.2.1 - 1) && inR x.2.2.2.2.2.2 1 2)))))
theorem Yp {x a b : Int} (h : inR x a b = true) : a <= x /\ x <= b := by simpa [inR] using h
theorem Y57 {d : Db} {x : Con} (h : SmallDb d) (hvb : validDb d = true) (hN : 1048576 < N) : Z1g N d x = some (conOk d x) := by
 have hr := h.rels;have hv := Y6 hvb;unfold Z1g conOk;rw [Yf h hN, hvb, J0];simp only [zS, l1In];rw [Y5 (x := (d.1.length : Int) - 1)];rw [show ∀ a b c : Int, decide (a <= b /\ b <= c) = inR b a c from fun _ _ _ => rfl, show ∀ a b c : Int, decide (a <= b /\ b <= c) = inR b a c from fun _ _ _ => rfl];cases h1 : inR x.1 0 ((d.1.length : Int) - 1) with
 | false => rfl
 | true =>
  cases h2 : inR x.2.1 0 ((d.1.length : Int) - 1) with
  | false => rfl
  | true =>
   have i1 := Yp h1;have i2 := Yp h2;have a1 := Y1i (Yr hv.rels (j := x.1.toNat) (by omega));have a2 := Y1i (Yr hv.rels (j := x.2.1.toNat) (by omega));simp only [zS, Y9 i1.1 (show x.1 < (d.1.length : Int) by omega), Y9 i2.1 (show x.2.1 < (d.1.length : Int) by omega)];rw [show (at_ (⟨#[]⟩, (0, 0)) d.1 x.1).2.1 = arOf d x.1 from rfl, show (at_ (⟨#[]⟩, (0, 0)) d.1 x.2.1).2.1 = arOf d x.2.1 from rfl];have b1 : 1 <= arOf d x.1 /\ arOf d x.1 <= 3 := a1;have b2 : 1 <= arOf d x.2.1 /\ arOf d x.2.1 <= 3 := a2;rw [Y5 (x := arOf d x.1 - 1), Y5 (x := arOf d x.2.1 - 1)];simp only [inR, Ja];cases decide (0 <= x.2.2.1 /\ x.2.2.1 <= arOf d x.1 - 1) <;> cases decide (0 <= x.2.2.2.2.1 /\ x.2.2.2.2.1 <= arOf d x.1 - 1) <;> cases decide (0 <= x.2.2.2.1 /\ x.2.2.2.1 <= arOf d x.2.1 - 1) <;> cases decide (0 <= x.2.2.2.2.2.1 /\ x.2.2.2.2.2.1 <= arOf d x.2.1 - 1) <;> rfl
theorem Y86 {d : Db} {x : Con} (h : SmallDb d) (hvb : validDb d = true) (hN : 1048576 < N) : Z1w N d x = some (conOk d x) := by
 rw [<- Y57 h hvb hN];unfold Z1w Z1g;rw [Yf h hN, Y24 h hN];simp [Yh, l1In]
def viol (d : Db) (x : Con) (i k : Nat) : Bool := conOk d x && (decide ((factAt d i).1 = x.1) && (decide ((factAt d k).1 = x.2.1) && (decide (at_ 0 (factAt d i).2 x.2.2.1 = at_ 0 (factAt d k).2 x.2.2.2.1) &&
 (if x.2.2.2.2.2.2 = 1 then decide (at_ 0 (factAt d i).2 x.2.2.2.2.1 = at_ 0 (factAt d k).2 x.2.2.2.2.2.1) else decide (at_ 0 (factAt d i).2 x.2.2.2.2.1 < at_ 0 (factAt d k).2 x.2.2.2.2.2.1)))))
theorem Y58 {d : Db} (hv : ValidDb d) {x : Con} (hc : conOk d x = true) {i k : Nat} (hi : i < d.2.length) (hk : k < d.2.length) (h1 : (factAt d i).1 = x.1) (h2 : (factAt d k).1 = x.2.1) :
  inb x.2.2.1 (factAt d i).2 = true /\ inb x.2.2.2.2.1 (factAt d i).2 = true /\ inb x.2.2.2.1 (factAt d k).2 = true /\ inb x.2.2.2.2.2.1 (factAt d k).2 = true /\ (x.2.2.2.2.2.2 = 1 \/ x.2.2.2.2.2.2 = 2) := by
 unfold conOk at hc;simp at hc;obtain ⟨_, _, c3, c4, c5, c6, c7⟩ := hc;have i3 := Yp c3;have i4 := Yp c4;have i5 := Yp c5;have i6 := Yp c6;have i7 := Yp c7;have l1 := (Yg hv.rels (hv.fact i hi)).len;have l2 := (Yg hv.rels (hv.fact k hk)).len;rw [h1] at l1;rw [h2] at l2;have l1 : ((factAt d i).2.length : Int) = arOf d x.1 := l1;have l2 : ((factAt d k).2.length : Int) = arOf d x.2.1 := l2;exact ⟨Y9 i3.1 (by omega), Y9 i4.1 (by omega), Y9 i5.1 (by omega), Y9 i6.1 (by omega), by omega⟩
theorem Y2w {d : Db} {x : Con} (h : SmallDb d) (hvb : validDb d = true) (hN : 1048576 < N) {i k : Nat} (hi : i < d.2.length) (hk : k < d.2.length) (hne : i ≠ k) : Z1d N d x i k = some (viol d x i k) := by
 have hf := h.facts;have hv := Y6 hvb;unfold Z1d viol;rw [Y57 h hvb hN, J0];cases hc : conOk d x with
 | false => rfl
 | true =>
  have e1 : (0 : Int) <= (i : Int) /\ (i : Int) <= (d.2.length : Int) - 1 := by omega
  have e2 : (0 : Int) <= (k : Int) /\ (k : Int) <= (d.2.length : Int) - 1 := by omega
  have e3 : ((i : Int) == (k : Int)) = false := by rw [beqI]; exact J5 (by omega)
  simp only [zS, l1In, Ja];rw [Y5 (x := (d.2.length : Int) - 1), J2 e1, J2 e2, e3];simp only [zS, Y1 hi, Y1 hk, Yb hi, Yb hk, bneI];by_cases h1 : (factAt d i).1 = x.1
  ·by_cases h2 : (factAt d k).1 = x.2.1
   ·obtain ⟨k1, k2, k3, k4, k5⟩ := Y58 hv hc hi hk h1 h2;simp [h1, h2, J1, k1, k2, k3, k4, grd_true];by_cases h3 : at_ 0 (factAt d i).2 x.2.2.1 = at_ 0 (factAt d k).2 x.2.2.2.1
    ·grind
    ·simp_all
   ·grind
  ·grind
theorem Y4e {d : Db} {x : Con} (h : SmallDb d) (hvb : validDb d = true) (hN : 1048576 < N) {i k : Nat} (hi : i < d.2.length) (hk : k < d.2.length) (hne : i ≠ k) : Z1c N d x i k = some (viol d x i k) := by
 have hf := h.facts;have hv := Y6 hvb;unfold Z1c viol;rw [Y86 h hvb hN, J0];cases hc : conOk d x with
 | false => rfl
 | true =>
  have e1 : (0 : Int) <= (i : Int) /\ (i : Int) <= (d.2.length : Int) - 1 := by omega
  have e2 : (0 : Int) <= (k : Int) /\ (k : Int) <= (d.2.length : Int) - 1 := by omega
  have e3 : ((i : Int) != (k : Int)) = true := by rw [bneI, J5 (by omega)]; rfl
  simp only [zS, Yh, Ja, e3];rw [Y5 (x := (d.2.length : Int) - 1), J2 e1, J2 e2];simp only [zS, Y1 hi, Y1 hk, Yb hi, Yb hk];have bb : ∀ o : Option Bool, (o.bind fun r4 => some r4) = o := fun o => by grind
  rw [bb];unfold Z73;simp only [bneI];by_cases h1 : (factAt d i).1 = x.1
  ·by_cases h2 : (factAt d k).1 = x.2.1
   ·obtain ⟨k1, k2, k3, k4, k5⟩ := Y58 hv hc hi hk h1 h2;simp [h1, h2, J1, k1, k2, k3, k4, grd_true];by_cases h3 : at_ 0 (factAt d i).2 x.2.2.1 = at_ 0 (factAt d k).2 x.2.2.2.1
    ·grind
    ·grind
   ·simp_all
  ·simp_all
def vany (d : Db) (l : List Con) (i k : Nat) : Bool := l.any fun x => viol d x i k || viol d x k i
def edge (d : Db) (l : List Con) (i k : Nat) : Bool := sameD d i k || vany d l i k
def edgeP (d : Db) (l : List Con) (i k : Nat) : List (Int × Int) := if edge d l i k then [((i : Int), (k : Int))] else []
def edgeR (d : Db) (l : List Con) (i : Nat) : List (Int × Int) := (List.range' (i + 1) (d.2.length - (i + 1))).flatMap (edgeP d l i)
def edgesOf (d : Db) (l : List Con) : List (Int × Int) := (List.range d.2.length).flatMap (edgeR d l)
theorem Y27 (d : Db) (l : List Con) (i k : Nat) : (edgeP d l i k).length <= 1 := by unfold edgeP; split <;> simp
theorem Y28 {β : Type} {piece : Nat -> List β} {m : Nat} (h : ∀ k, (piece k).length <= m) (s n : Nat) : ((List.range' s n).flatMap piece).length <= n * m := by
 have := Yi (piece := piece) (n := m) (a := List.range' s n) (fun x _ => h x);simpa using this
theorem Y29 {d : Db} (hv : ValidDb d) (l : List Con) (i : Nat) : (edgeR d l i).length <= 14 := by
 have := Y28 (Y27 d l i) (i + 1) (d.2.length - (i + 1));have := hv.few;unfold edgeR; omega
theorem Y6g {d : Db} (hv : ValidDb d) (l : List Con) : (edgesOf d l).length <= 196 := by
 have := Yi (piece := edgeR d l) (n := 14) (a := List.range d.2.length) (fun x _ => Y29 hv l x);have := hv.few;simp only [Jr] at *;unfold edgesOf;omega
theorem Y2x {α : Type} {l : List α} {p : α -> Bool} {j : Nat} (h : j < l.length) : (l.drop j).any p = (p l[j] || (l.drop (j + 1)).any p) := by rw [Jb h, List.any_cons]
theorem Y15 {d : Db} {k : Nat} (hk : k < d.2.length) : factAt d k ∈ d.2 := by unfold factAt; rw [Y2 hk]; exact J4 hk
theorem Y1d {N : Nat} {d : Db} {l : List Con} (h : SmallDb d) (hl : l.length <= 1048576) (hvb : validDb d = true) (hN : 1048576 < N) {i k : Nat} (hik : i < k) (hk : k < d.2.length) (Rc : List Con -> List Rel -> List Fact -> List (Int × Int) -> Int -> Int -> Option (List (Int × Int))) {out : List (Int × Int)} (ho : out.length <= 1000) :
  ∀ {f j : Nat} {is_ : Bool}, l.length - j < f -> j <= l.length -> Z36 Rc N f l d.1 d.2 out i k is_ (j : Int) = Rc l d.1 d.2 (out ++ (if is_ || (l.drop j).any (fun x => viol d x i k || viol d x k i) then [((i : Int), (k : Int))] else [])) i ((k + 1 : Nat) : Int)
 | 0, j, is_, hf, hj => by omega
 | f + 1, j, is_, hf, hj => by
  have few := (Y6 hvb).few;by_cases hlt : j < l.length
  ·have h1 : (j : Int) < (l.length : Int) := by omega
   simp only [zS, Z36, Z4t, h1, Y0 (j := j), Y1 hlt, Y4 hlt];rw [Y2x hlt];cases is_ with
   | true =>
    rw [J3, Y1d h hl hvb hN hik hk Rc ho (by omega) (by omega)];simp
   | false =>
    have v1 := Y2w (x := l[j]) h hvb hN (i := i) (k := k) (by omega) hk (by omega);have v2 := Y2w (x := l[j]) h hvb hN (i := k) (k := i) hk (by omega) (by omega);rw [J1];erw [v1];rw [J0];cases hv1 : viol d l[j] i k with
    | true =>
     rw [J3, Y1d h hl hvb hN hik hk Rc ho (by omega) (by omega)];simp
    | false =>
     rw [J1];erw [v2];rw [J0, Y1d h hl hvb hN hik hk Rc ho (by omega) (by omega)];simp only [Jt]
  ·have : j = l.length := by omega
   subst this;have h1 : ¬ (l.length : Int) < (l.length : Int) := by omega
   simp only [zS, Z36, Z4t, h1, Y0 (j := k), J1h, List.any_nil, Bool.or_false];cases is_ with
   | true =>
    have : appOk out [((i : Int), (k : Int))] 16 = true := Y4a (by simp only [J11]; omega);rw [J3, this, grd_true, Jc rfl]
   | false => simp
theorem Y6h {d : Db} {l : List Con} (h : SmallDb d) (hl : l.length <= 1048576) (hvb : validDb d = true) (hN : 1048576 < N) {i : Nat} (hi : i < d.2.length) (R0 : List Con -> List Rel -> List Fact -> List (Int × Int) -> Int -> Option (List (Int × Int))) {out : List (Int × Int)} (ho : out.length <= 500) :
  Z1a R0 N N l d.1 d.2 out i ((i + 1 : Nat) : Int) = R0 l d.1 d.2 (out ++ edgeR d l i) ((i + 1 : Nat) : Int) := by
 have few := (Y6 hvb).few;have hv := Y6 hvb;refine Y1b (n := d.2.length) (m := 1) (B := 1000) (edgeP d l i) (f := fun k out j => Z1a R0 N k l d.1 d.2 out i j) (g := fun out => R0 l d.1 d.2 out ((i + 1 : Nat) : Int)) (Y27 d l i) (fun k out => by
  have h1 : ¬ (d.2.length : Int) < (d.2.length : Int) := by omega
  simp only [zS, Z1a, Z4u, h1, Y0 (j := i)]) (lo := i + 1) (fun f out k hik hk hB => ?_) (by omega) (by omega) (by omega) (by omega)
 have hik : i < k := hik;have h1 : (k : Int) < (d.2.length : Int) := by omega
 simp only [zS, Z1a, Z4u, h1, Y1 hi, Y1 hk, Yb hi, Yb hk];rw [Y48 h.rels (h.vals _ (Y15 hi)) (h.vals _ (Y15 hk)) hN hv.rels (hv.fact i hi) (hv.fact k hk), J0];have := Y1d h hl hvb hN hik hk (Z1a R0 N f) hB (f := N) (j := 0) (is_ := sameK d.1 (factAt d i) (factAt d k)) (by omega) (by omega);rw [show ((0 : Nat) : Int) = 0 from rfl] at this;rw [this, J1v];rfl
theorem Y3k {d : Db} {l : List Con} (h : SmallDb d) (hl : l.length <= 1048576) (hN : 1048576 < N) : Z1s N d l = some (if validDb d then edgesOf d l else []) := by
 have hf := h.facts;unfold Z1s Z8l;cases hvb : validDb d with
 | false =>
  obtain ⟨n, rfl⟩ : ∃ n, N = n + 1 := ⟨N - 1, by omega⟩;simp only [Z1n, Z3k];have := Yf h hN;rw [hvb] at this;have this : Z0 (n + 1) (d.1, d.2) = some false := this;rw [this];by_cases h0 : (0 : Int) < (d.2.length : Int)
  ·rw [J2 h0]; rfl
  ·rw [J5 h0]; rfl
 | true =>
  have hv := Y6 hvb;have few := hv.few;rw [Jc rfl];have := Y1b (n := d.2.length) (m := 14) (B := 400) (lo := 0) (edgeR d l) (f := fun k out j => Z1n N k l d.1 d.2 out j) (g := fun out => some out) (Y29 hv l) (fun k out => by
   have h1 : ¬ (d.2.length : Int) < (d.2.length : Int) := by omega
   simp only [zS, Z1n, Z3k, h1]) (fun f out i _ hi hB => by
   have h1 : (i : Int) < (d.2.length : Int) := by omega
   have hd := Yf h hN;rw [hvb] at hd;have hd : Z0 N (d.1, d.2) = some true := hd;simp only [zS, Z1n, Z3k, h1, hd, Y0 (j := i)];rw [Y6h h hl hvb hN hi _ (by omega)]) (k := N) (j := 0) (out := []) (by omega) (by omega) (by omega) (by simp only [J1t]; omega)
  rw [show ((0 : Nat) : Int) = 0 from rfl] at this;rw [this, J1k, Nat.sub_zero, <- List.range_eq_range'];rfl
theorem Y6i {d : Db} {l : List Con} (h : SmallDb d) (hl : l.length <= 1048576) (hvb : validDb d = true) (hN : 1048576 < N) {i k : Nat} (hik : i < k) (hk : k < d.2.length) : Z26 N i k l d = some (edge d l i k) := by
 have hv := Y6 hvb;have go : ∀ {f j : Nat}, l.length - j < f -> j <= l.length -> Z25 N f i k d.1 d.2 l (l.length : Int) (j : Int) = some ((l.drop j).any (fun x => viol d x i k || viol d x k i) || sameD d i k) := by
  intro f
  induction f with
  | zero => intro j hf hj; omega
  | succ f ih =>
   intro j hf hj;by_cases hlt : j < l.length
   ·have h1 : (j : Int) < (l.length : Int) := by omega
    have v1 := Y2w (x := l[j]) h hvb hN (i := i) (k := k) (by omega) hk (by omega);have v1 := Y4e (x := l[j]) h hvb hN (i := i) (k := k) (by omega) hk (by omega);have v2 := Y4e (x := l[j]) h hvb hN (i := k) (k := i) hk (by omega) (by omega);simp only [zS, Z25, Z3y, h1, Y0 (j := j), Y1 hlt, Y4 hlt];rw [Y2x hlt];erw [v1];rw [J0];cases hv1 : viol d l[j] i k with
    | true => simp
    | false =>
     rw [J1];erw [v2];rw [J0];cases hv2 : viol d l[j] k i with
     | true => simp
     | false =>
      rw [J1, ih (by omega) (by omega)];simp only [Jt]
   ·have : j = l.length := by omega
    subst this;have h1 : ¬ (l.length : Int) < (l.length : Int) := by omega
    have hi : i < d.2.length := by omega
    simp only [zS, Z25, Z3y, h1, J1h, List.any_nil, Jt, Y1 hi, Y1 hk, Yb hi, Yb hk];rw [Y70 (h.vals _ (Y15 hi)) (h.vals _ (Y15 hk)) hN hv.rels (hv.fact i hi) (hv.fact k hk)];rfl
 unfold Z26 Z6y;have := go (f := N) (j := 0) (by omega) (by omega);rw [show ((0 : Nat) : Int) = 0 from rfl] at this;rw [this, J1v, Bool.or_comm];rfl
theorem Y6j {d : Db} {l : List Con} (h : SmallDb d) (hl : l.length <= 1048576) (hvb : validDb d = true) (hN : 1048576 < N) {i : Nat} (hi : i < d.2.length) (R0 : Int -> List Con -> Db -> List (Int × Int) -> Int -> Int -> Option (List (Int × Int))) {out : List (Int × Int)} (ho : out.length <= 500) :
  Z0r R0 N N (d.2.length : Int) l d out i ((i + 1 : Nat) : Int) (d.2.length : Int) i = R0 (d.2.length : Int) l d (out ++ edgeR d l i) (d.2.length : Int) ((i + 1 : Nat) : Int) := by
 have few := (Y6 hvb).few;refine Y1b (n := d.2.length) (m := 1) (B := 1000) (edgeP d l i) (f := fun k out j => Z0r R0 N k (d.2.length : Int) l d out i j (d.2.length : Int) i) (g := fun out => R0 (d.2.length : Int) l d out (d.2.length : Int) ((i + 1 : Nat) : Int)) (Y27 d l i) (fun k out => by
  have h1 : ¬ (d.2.length : Int) < (d.2.length : Int) := by omega
  simp only [zS, Z0r, Z2m, h1, Y0 (j := i)]) (lo := i + 1) (fun f out k hik hk hB => ?_) (by omega) (by omega) (by omega) (by omega)
 have hik : i < k := hik;have h1 : (k : Int) < (d.2.length : Int) := by omega
 simp only [zS, Z0r, Z2m, h1, Y6i h hl hvb hN hik hk, Y0 (j := k)];unfold edgeP;cases edge d l i k with
 | true =>
  have : appOk out [((i : Int), (k : Int))] 16 = true := Y4a (by simp only [J11]; omega);rw [J3, this, grd_true, Jc rfl]
 | false => simp
theorem Y6k {d : Db} {l : List Con} (h : SmallDb d) (hl : l.length <= 1048576) (hN : 1048576 < N) : Z3a N d l = some (if validDb d then edgesOf d l else []) := by
 have hf := h.facts;unfold Z3a;rw [Y24 h hN, J0];cases hvb : validDb d with
 | false => rfl
 | true =>
  have hv := Y6 hvb;have few := hv.few;rw [Jc rfl, J9, J1];unfold Z1m Z4r;have := Y1b (n := d.2.length) (m := 14) (B := 400) (lo := 0) (edgeR d l) (f := fun k out j => Z0s N k (d.2.length : Int) l d out (d.2.length : Int) j) (g := fun out => some out) (Y29 hv l) (fun k out => by
   have h1 : ¬ (d.2.length : Int) < (d.2.length : Int) := by omega
   simp only [zS, Z0s, Z2n, h1]) (fun f out i _ hi hB => by
   have h1 : (i : Int) < (d.2.length : Int) := by omega
   simp only [zS, Z0s, Z2n, h1, Y0 (j := i)];rw [Y6j h hl hvb hN hi _ (by omega)]) (k := N) (j := 0) (out := []) (by omega) (by omega) (by omega) (by simp only [J1t]; omega)
  rw [show ((0 : Nat) : Int) = 0 from rfl] at this;rw [this, J0, J1k, Nat.sub_zero, <- List.range_eq_range'];rfl
theorem Y4f (s : List Int) (v : Int) : (s.any fun x => decide (v = x)) = decide (v ∈ s) := by grind
theorem Y59 {s : List Int} {v : Int} (hs : s.length <= 1048576) (hN : 1048576 < N) : Z0k N s v = some (decide (v ∈ s)) := by
 unfold Z0k Z33 Z6z;rw [Yw (d := (0 : Int)) (xs := s) (p := fun x => decide (v = x)) (first (n := s.length) (fun j => decide (v = s.getD j 0)) (fun k i => Z27 N k s v (s.length : Int) i) (fun k => by simp [Z27, Z3z]) (fun k j hj => ?_) (by omega)), Y4f];have h1 : (j : Int) < (s.length : Int) := by omega
 simp only [zS, Z27, Z3z, h1, Y1 hj, Y4 hj, Y2 hj, Y0 (j := j), beqI];cases decide (v = s[j]) <;> rfl
theorem Y3f {s : List Int} {v : Int} (hs : s.length <= 1048576) (hN : 1048576 < N) : Z40 N s v = some (decide (v ∈ s)) := by
 unfold Z40 Z0bz;rw [Ya (n := s.length) (fun j => !decide (s.getD j 0 = v)) (some true) (some false) (fun k i => Z75 N k s v i) (fun k => by simp [Z75, Z99]) (fun k j hj => ?_) (by omega)]
 ·by_cases h : v ∈ s
  ·rw [J2 h];obtain ⟨j, hj, rfl⟩ := Jd.1 h;rw [Jm (fun h' => by grind)]
  ·grind
 ·have h1 : (j : Int) < (s.length : Int) := by omega
  simp only [zS, Z75, Z99, h1, Y1 hj, Y4 hj, Y2 hj, Y0 (j := j), beqI];cases decide (s[j] = v) <;> simp
structure Good (n : Int) (c : List Int) : Prop where
 lit : ∀ x ∈ c, x ≠ 0 /\ -n <= x /\ x <= n
 one : c.Pairwise fun x y => x ≠ y /\ x ≠ -y
theorem Y4g : ∀ (n : Nat) (l : List Nat), l.Nodup -> (∀ x ∈ l, 1 <= x /\ x <= n) -> l.length <= n
 | 0, l, _, h => by
  cases l with
  | nil => simp
  | cons x l => have := h x (by simp); omega
 | n + 1, l, hn, h => by
  have := Y4g n (l.erase (n + 1)) (hn.erase _) (fun x hx => by grind);rw [List.length_erase] at this;split at this <;> omega
theorem Good.few {n : Int} {c : List Int} (h0 : 0 <= n) (h : Good n c) : (c.length : Int) <= n := by
 have := Y4g n.toNat (c.map Int.natAbs) (by
  unfold List.Nodup;rw [J17];exact h.one.imp (fun {x y} hxy e => by omega)) (fun x hx => by
  obtain ⟨y, hy, rfl⟩ := Jg.1 hx;have := h.lit y hy;omega)
 rw [Jp] at this;omega
structure EOk (n : Nat) (E : List (Int × Int)) : Prop where
 few : n <= 14
 len : E.length <= 196
 all : ∀ e ∈ E, 0 <= e.1 /\ e.1 < e.2 /\ e.2 < (n : Int)
def ordE (E : List (Int × Int)) (j : Nat) : Bool := decide (j = 0) || (let a := E.getD j (0, 0); let b := E.getD (j - 1) (0, 0); decide (b.1 < a.1) || (decide (b.1 = a.1) && decide (b.2 < a.2)))
def validE (E : List (Int × Int)) : Bool := decide (∀ j, j < E.length -> ordE E j = true)
theorem in14 {n : Nat} (h : n <= 14) : decide ((0 : Int) <= (n : Int) /\ (n : Int) <= 14) = true := J2 (by omega)
theorem Y6l {N n : Nat} {E : List (Int × Int)} (h : EOk n E) (hN : 1048576 < N) : Z1t N n E = some (validE E) := by
 have hf := h.few;have hl := h.len;unfold Z1t Z8m;rw [Ya (n := E.length) (ordE E) (some false) (some true) (fun k i => Z37 N k n E i) (fun k => by simp [Z37, Z4v, l1In]; omega) (fun k j hj => ?_) (by omega)]
 ·unfold validE;split
  ·rename_i h4; rw [J2 h4]
  ·rename_i h4; rw [J5 h4]
 ·have h1 : (j : Int) < (E.length : Int) := by omega
  have h2 := h.all _ (J4 hj);have e1 : decide (0 <= E[j].1 /\ E[j].1 <= E[j].2 - 1) = true := J2 (by omega);have e2 : decide (0 <= E[j].2 /\ E[j].2 <= (n : Int) - 1) = true := J2 (by omega);simp only [zS, Z37, Z4v, h1, Y1 hj, Y4 hj, l1In, Y0 (j := j), Y5 (x := E[j].2 - 1), Y5 (x := (n : Int) - 1), e1, e2];by_cases h0 : j = 0
  ·subst h0; simp [ordE]
  ·have h3 : (j : Int) > 0 := by omega
   have h4 : j - 1 < E.length := by omega
   simp only [zS, h3, Y8 (show 0 < j by omega) (by omega), Y1 h4, Y4 h4, ordE, h0, Jt, Y2 h4, Y2 hj, beqI];by_cases h5 : E[j].1 < E[j - 1].1
   ·have a1 : ¬ E[j - 1].1 < E[j].1 := by omega
    have a2 : ¬ E[j - 1].1 = E[j].1 := by omega
    simp [h5, a1, a2]
   ·by_cases h6 : E[j].1 = E[j - 1].1
    ·have a1 : ¬ E[j - 1].1 < E[j].1 := by omega
     by_cases h7 : E[j].2 <= E[j - 1].2
     ·have a2 : ¬ E[j - 1].2 < E[j].2 := by omega
      simp [h6, h7, a2]
     ·have a2 : E[j - 1].2 < E[j].2 := by omega
      simp [h6, h7, a2]
    ·have a1 : E[j - 1].1 < E[j].1 := by omega
     simp [h5, h6, a1]
theorem Y6m {N n : Nat} {E : List (Int × Int)} (h : EOk n E) (hN : 1048576 < N) : Z1p N n E = some (validE E) := by
 have hf := h.few;have hl := h.len;unfold Z1p Z8i;rw [Yh, J0, in14 hf, J9, J1];rw [Ya (n := E.length) (ordE E) (some false) (some true) (fun k i => Z32 N k n E E (E.length : Int) i) (fun k => by simp [Z32, Z4s]) (fun k j hj => ?_) (by omega)]
 ·unfold validE;split
  ·rename_i h4; rw [J2 h4]
  ·rename_i h4; rw [J5 h4]
 ·have h1 : (j : Int) < (E.length : Int) := by omega
  have h2 := h.all _ (J4 hj);have e1 : ¬ E[j].1 < 0 := by omega
  have e2 : ¬ E[j].1 >= E[j].2 := by omega
  have e3 : ¬ E[j].2 >= (n : Int) := by omega
  simp only [zS, Z32, Z4s, h1, Y1 hj, Y4 hj, Y0 (j := j), e1, e2, e3];by_cases h0 : j = 0
  ·subst h0; simp [ordE]
  ·have h3 : (j : Int) > 0 := by omega
   have h4 : j - 1 < E.length := by omega
   simp only [zS, h3, Y8 (show 0 < j by omega) (by omega), Y1 h4, Y4 h4, ordE, h0, Jt, Y2 h4, Y2 hj, beqI];by_cases h5 : E[j - 1].1 > E[j].1
   ·have a1 : ¬ E[j - 1].1 < E[j].1 := by omega
    have a2 : ¬ E[j - 1].1 = E[j].1 := by omega
    simp [h5, a1, a2]
   ·by_cases h6 : E[j - 1].1 = E[j].1
    ·by_cases h7 : E[j - 1].2 >= E[j].2
     ·have a2 : ¬ E[j - 1].2 < E[j].2 := by omega
      simp [h6, h7, a2]
     ·have a2 : E[j - 1].2 < E[j].2 := by omega
      simp [h6, h7, a2]
    ·have a1 : E[j - 1].1 < E[j].1 := by omega
     simp [h5, h6, a1]
def indep (E : List (Int × Int)) (s : List Int) : Bool := E.all fun e => !(decide (e.1 ∈ s) && decide (e.2 ∈ s))
theorem Y77 {α : Type} {xs : List α} {p : α -> Bool} (d : α) : xs.all p = decide (∀ j, j < xs.length -> p (xs.getD j d) = true) := by
 rw [J15, J6, Jh];constructor
 ·intro h j hj;rw [Y2 hj]; exact h _ (J4 hj)
 ·intro h x hx;obtain ⟨j, hj, rfl⟩ := Jd.1 hx;have := h j hj
  rwa [Y2 hj] at this
theorem Y5a {E : List (Int × Int)} {s : List Int} (he : E.length <= 196) (hs : s.length <= 1000) (hN : 1048576 < N) : Z1u N E s = some (indep E s) := by
 unfold Z1u Z8o indep;rw [Y77 (0, 0), Ya (n := E.length) (fun j => !(decide ((E.getD j (0, 0)).1 ∈ s) && decide ((E.getD j (0, 0)).2 ∈ s))) (some false) (some true) (fun k i => Z38 N k E s i) (fun k => by simp [Z38, Z4w]) (fun k j hj => ?_) (by omega)]
 ·split
  ·rename_i h4; rw [J2 h4]
  ·rename_i h4; rw [J5 h4]
 ·have h1 : (j : Int) < (E.length : Int) := by omega
  simp only [zS, Z38, Z4w, h1, Y1 hj, Y4 hj, Y2 hj, Y0 (j := j), Y3f (s := s) (by omega) hN];cases decide (E[j].1 ∈ s) <;> cases decide (E[j].2 ∈ s) <;> rfl
theorem Y3g {E : List (Int × Int)} {s : List Int} (he : E.length <= 196) (hs : s.length <= 1000) (hN : 1048576 < N) : Z0z N E s = some (indep E s) := by
 unfold Z0z Z3 Z4 Z0p;rw [Yw (d := ((0, 0) : Int × Int)) (xs := E) (p := fun e => decide (e.1 ∈ s) && decide (e.2 ∈ s)) (first (n := E.length) (fun j => decide ((E.getD j (0, 0)).1 ∈ s) && decide ((E.getD j (0, 0)).2 ∈ s)) (fun k i => Z2 N k E s (E.length : Int) i) (fun k => by simp [Z2, Z8]) (fun k j hj => ?_) (by omega)), J0]
 ·unfold indep;rw [List.all_eq_not_any_not];simp
 ·have h1 : (j : Int) < (E.length : Int) := by omega
  simp only [zS, Z2, Z8, Z34, h1, Y1 hj, Y4 hj, Y2 hj, Y0 (j := j), Y59 (s := s) (by omega) hN];cases decide (E[j].1 ∈ s) <;> cases decide (E[j].2 ∈ s) <;> rfl
def fitsE (E : List (Int × Int)) (s : List Int) (x : Int) : Bool := !decide (x ∈ s) && indep E (s ++ [x])
theorem Y4h {E : List (Int × Int)} {s : List Int} {x : Int} (he : E.length <= 196) (hs : s.length <= 900) (hN : 1048576 < N) : Z5e N E s x = some (fitsE E s x) := by
 unfold Z5e fitsE;rw [Y3f (by omega) hN, J0];cases decide (x ∈ s) with
 | true => rfl
 | false =>
  rw [Jq, J3, Y3, Y3, Y5a he (by simp only [Jz, J11]; omega) hN];rfl
theorem Y78 {N n : Nat} {l : List Int} (hn : n <= 1048576) (hl : l.length <= 1048576) (hN : 1048576 < N) : Z8n N n l = some (validSet n l) := by
 unfold Z8n Z0by;rw [Ya (n := l.length) (fun j => decide (0 <= l.getD j 0 /\ l.getD j 0 <= (n : Int) - 1) && (decide (j = 0) || decide (l.getD (j - 1) 0 < l.getD j 0))) (some false) (some true) (fun k i => Z74 N k (n : Int) l i)
  (fun k => by simp [Z74, Z98]) (fun k j hj => ?_) (by omega)]
 ·unfold validSet;split
  ·rename_i h4; rw [J2 h4]
  ·rename_i h4; rw [J5 h4]
 ·have h1 : (j : Int) < (l.length : Int) := by omega
  simp only [zS, Z74, Z98, h1, Y1 hj, Y4 hj, l1In, Y2 hj, Y0 (j := j), Y5 (show -9223372036854775808 <= (n : Int) - 1 by omega) (by omega)];cases decide (0 <= l[j] /\ l[j] <= (n : Int) - 1) with
  | false => rfl
  | true =>
   simp only [zS, Ja];by_cases h0 : j = 0
   ·subst h0; simp
   ·have h3 : (j : Int) > 0 := by omega
    have h4 : j - 1 < l.length := by omega
    simp only [zS, h3, Y8 (show 0 < j by omega) (by omega), Y1 h4, Y4 h4, h0, Jt, Y2 h4];by_cases h5 : l[j - 1] < l[j]
    ·have : ¬ l[j] <= l[j - 1] := by omega
     simp [h5, this]
    ·have : l[j] <= l[j - 1] := by omega
     simp [h5, this]
def maxI (n : Nat) (E : List (Int × Int)) (s : List Int) : Bool := validE E && (validSet n s && (indep E s && decide (∀ x, x < n -> (!fitsE E s x) = true)))
theorem Y5b {N n : Nat} {E : List (Int × Int)} {s : List Int} (h : EOk n E) (hs : s.length <= 900) (hN : 1048576 < N) : Z0n N n E s = some (maxI n E s) := by
 have hf := h.few;unfold Z0n Z5q maxI;rw [Y6l h hN, Y78 (by omega) (by omega) hN, Y5a h.len (by omega) hN, J0, J0, J0];cases validE E with
 | false => rfl
 | true =>
  cases validSet n s with
  | false => rfl
  | true =>
   cases indep E s with
   | false => rfl
   | true =>
    simp only [zS, Ja];refine Y42 (n := n) (fun x => !fitsE E s x) (fun k i => Z1i N k n E s i) (fun k => by simp [Z1i, Z31]) (fun k j hj => ?_) (by omega);have h1 : (j : Int) < (n : Int) := by omega
    simp only [zS, Z1i, Z31, h1, Y4h h.len hs hN, Y0 (j := j)];cases fitsE E s j <;> simp
theorem Y17 {s : List Int} (hs : s.length <= 1000) : Z17 N s = some s := by
 unfold Z17;rw [J2 (by omega), grd_true]
theorem Y87 {N n : Nat} {E : List (Int × Int)} {s : List Int} (h : EOk n E) (hs : s.length <= 900) (hN : 1048576 < N) : Z1f N n E s = some (maxI n E s) := by
 have hf := h.few;unfold Z1f Z5l Z35 maxI;rw [Y6m h hN, Y3e (by omega) (by omega) hN, Y3g h.len (by omega) hN, J0, J0, J0];cases validE E with
 | false => rfl
 | true =>
  cases validSet n s with
  | false => rfl
  | true =>
   cases indep E s with
   | false => rfl
   | true =>
    simp only [zS, Ja];refine Y42 (n := n) (fun x => !fitsE E s x) (fun k i => Z1h N k E s n i) (fun k => by simp [Z1h, Z2y]) (fun k j hj => ?_) (by omega);have h1 : (j : Int) < (n : Int) := by omega
    simp only [zS, Z1h, Z2y, h1, Y59 (s := s) (by omega) hN, Y0 (j := j), Y17 (N := N) (s := s) (by omega)];rw [Y3, grd_true, Y3g h.len (by simp only [Jz, J11]; omega) hN, J0];unfold fitsE;cases decide ((j : Int) ∈ s) <;> cases indep E (s ++ [(j : Int)]) <;> simp
def walk (n : Nat) (E : List (Int × Int)) : Nat -> List Int -> Nat -> List (List Int)
 | 0, s, x => if maxI n E s then [s] else []
 | m + 1, s, x => (if indep E (s ++ [(x : Int)]) then walk n E m (s ++ [(x : Int)]) (x + 1) else []) ++ walk n E m s (x + 1)
theorem Yu {n : Nat} {E : List (Int × Int)} : ∀ (m : Nat) (s : List Int) (x : Nat), (walk n E m s x).length <= 2 ^ m
 | 0, s, x => by simp [walk]; split <;> simp
 | m + 1, s, x => by
  have h1 := Yu (n := n) (E := E) m (s ++ [(x : Int)]) (x + 1);have h2 := Yu (n := n) (E := E) m s (x + 1);simp [walk];split
  ·omega
  ·simp; omega
theorem Y2y {n : Nat} {E : List (Int × Int)} : ∀ (m : Nat) (s : List Int) (x : Nat), s.length <= x -> ∀ r ∈ walk n E m s x, r.length <= x + m
 | 0, s, x, hs, r, hr => by
  simp only [walk] at hr;split at hr
  ·grind
  ·simp at hr
 | m + 1, s, x, hs, r, hr => by
  simp only [walk, Jx] at hr;rcases hr with hr | hr
  ·split at hr
   ·have := Y2y m (s ++ [(x : Int)]) (x + 1) (by simp; omega) r hr;omega
   ·simp at hr
  ·have := Y2y m s (x + 1) (by omega) r hr;omega
def touch (x : Int) (e : Int × Int) : Bool := decide (e.1 = x) || decide (e.2 = x)
theorem Y5n {E : List (Int × Int)} {s : List Int} {y : Int} (h : E.any (touch y) = false) (hi : indep E s = true) : indep E (s ++ [y]) = true := by
 unfold indep at *;rw [Jh] at *;intro e he;have h1 := hi e he;have h2 : ¬ (touch y e = true) := fun h3 => by grind
 have h3 : e.1 ≠ y /\ e.2 ≠ y := by
  simp [touch] at h2;exact h2
 have m1 : (e.1 ∈ s ++ [y]) ↔ e.1 ∈ s := by simp [h3.1]
 have m2 : (e.2 ∈ s ++ [y]) ↔ e.2 ∈ s := by simp [h3.2]
 simp only [m1, m2];exact h1
theorem Y2a {n : Nat} {E : List (Int × Int)} {y : Nat} (hy : y < n) (h : E.any (touch y) = false) : ∀ (m : Nat) (s : List Int) (x : Nat), y < x -> (y : Int) ∉ s -> walk n E m s x = []
 | 0, s, x, hx, hs => by
  simp only [walk];rw [Jm];intro hm;simp [maxI] at hm;have := hm.2.2.2 y hy;rw [fitsE, J5 hs, Y5n h hm.2.2.1] at this;simp at this
 | m + 1, s, x, hx, hs => by
  simp only [walk];rw [Y2a hy h m s (x + 1) (by omega) hs, Jf];split
  ·exact Y2a hy h m _ (x + 1) (by omega) (by simp; exact ⟨hs, by omega⟩)
  ·rfl
theorem Y2k {N : Nat} {E : List (Int × Int)} (he : E.length <= 196) (Rf : Int -> List (Int × Int) -> List Int -> Int -> Option (List (List Int))) (n : Int) (s : List Int) (x : Nat) (hx : x <= 1000) (out : List (List Int)) :
  ∀ {f j : Nat} {met : Bool}, E.length - j < f -> j <= E.length -> Z56 N Rf f n E s x out met (j : Int) = bif met || (E.drop j).any (touch x) then ((Rf n E s ((x + 1 : Nat) : Int)).bind fun r4 => grd (appOk out r4 24) <| some (out ++ r4)) else some out
 | 0, j, met, hf, hj => by omega
 | f + 1, j, met, hf, hj => by
  by_cases h : j < E.length
  ·have e1 : (j : Int) < (E.length : Int) := by omega
   simp only [zS, Z56, Z8p, e1, Y1 h, Y4 h, Y0 (j := j)];rw [Y2x h];cases met with
   | true => rw [J3, Y2k he Rf n s x hx out (by omega) h]; rfl
   | false =>
    rw [J1, beqI, beqI];unfold touch;cases decide (E[j].1 = (x : Int)) with
    | true => rw [J3, Y2k he Rf n s x hx out (by omega) h]; rfl
    | false =>
     rw [J1, Y2k he Rf n s x hx out (by omega) h];simp;rfl
  ·have : j = E.length := by omega
   subst this;simp only [zS, Z56, Z8p, J10, J1h, List.any_nil, Bool.or_false, Y0 (j := x)]
theorem Y5o {m : Nat} (h : m <= 14) : 2 ^ m <= 16384 := J1e (n := 2) (by decide) h
theorem Y2z {N n : Nat} {E : List (Int × Int)} (h : EOk n E) (hN : 1048576 < N) : ∀ (m f : Nat) (s : List Int) (x : Nat), m < f -> x + m = n -> s.length <= x -> (∀ y ∈ s, y < (x : Int)) -> Z3d N f n E s x = some (walk n E m s x)
 | _, 0, _, _, hf, _, _, _ => by omega
 | 0, f + 1, s, x, hf, hx, hl, hs => by
  have hn := h.few;obtain rfl : x = n := by omega
  simp only [zS, Z3d, Z0a6, beqI, Y5b h (s := s) (by omega) hN, walk];cases maxI x E s with
  | true => rw [J3, Y3]; rfl
  | false => rfl
 | m + 1, f + 1, s, x, hf, hx, hl, hs => by
  have hn := h.few;have hne : ¬ (x : Int) = (n : Int) := by omega
  have hxs : (x : Int) ∉ s := fun hm => by grind
  have i1 := Y2z h hN m f (s ++ [(x : Int)]) (x + 1) (by omega) (by omega) (by simp; omega) (fun y hy => by grind);have i2 := Y2z h hN m f s (x + 1) (by omega) (by omega) (by omega) (fun y hy => by grind);have p1 := Yu (n := n) (E := E) m (s ++ [(x : Int)]) (x + 1);have p2 := Yu (n := n) (E := E) m s (x + 1);have p3 := Y5o (m := m) (by omega);have fin : ∀ out : List (List Int), out.length <= 16384 -> Z56 N (Z3d N f) N n E s x out false 0 = some (out ++ walk n E m s (x + 1)) := by
   intro out ho;have := Y2k (N := N) h.len (Z3d N f) n s x (by omega) out (f := N) (j := 0) (met := false) (by have := h.len; omega) (by omega);rw [show ((0 : Nat) : Int) = 0 from rfl] at this;rw [this, J1v, Jt, i2, J0, Y3, grd_true];cases ht : E.any (touch x) with
   | true => rfl
   | false => rw [J1, Y2a (by omega) ht m s (x + 1) (by omega) hxs, Jf]
  simp only [zS, Z3d, Z0a6, beqI, J5 hne, Y4h h.len (show s.length <= 900 by omega) hN, fitsE, J5 hxs, Ja, walk];cases indep E (s ++ [(x : Int)]) with
  | true =>
   rw [J3, Y3, Y3, grd_true, grd_true, Y0, i1, J0, fin _ (by omega)];rfl
  | false => grind
theorem Y1w {N n : Nat} {E : List (Int × Int)} (h : EOk n E) (hN : 1048576 < N) : ∀ (m f : Nat) (s : List Int) (x : Nat) (out : List (List Int)), m < f -> x + m = n -> s.length <= x -> out.length + 2 ^ m <= 100000 -> Z0l N f x s n E out n E = some (out ++ walk n E m s x)
 | _, 0, _, _, _, hf, _, _, _ => by omega
 | 0, f + 1, s, x, out, hf, hx, hl, ho => by
  have hn := h.few;obtain rfl : x = n := by omega
  simp only [zS, Z0l, Z2o, beqI, Y87 h (s := s) (by omega) hN, walk];cases maxI x E s with
  | true => rw [J3, Y3, Y3 (by omega) (by grind)]; rfl
  | false => simp
 | m + 1, f + 1, s, x, out, hf, hx, hl, ho => by
  have hn := h.few;have hne : ¬ (x : Int) = (n : Int) := by omega
  rw [Nat.pow_succ] at ho;have p1 := Yu (n := n) (E := E) m (s ++ [(x : Int)]) (x + 1);simp only [zS, Z0l, Z2o, beqI, J5 hne, Y17 (N := N) (s := s) (by omega)];rw [Y3, grd_true, Y3g h.len (by simp only [Jz, J11]; omega) hN, J0, Y0];simp only [walk];cases indep E (s ++ [(x : Int)]) with
  | true =>
   rw [J3, Y1w h hN m f (s ++ [(x : Int)]) (x + 1) out (by omega) (by omega) (by simp; omega) (by omega), J0, Y1w h hN m f s (x + 1) _ (by omega) (by omega) (by omega) (by grind), J0, J18];rfl
  | false =>
   rw [J1, Y1w h hN m f s (x + 1) out (by omega) (by omega) (by omega) (by omega), J0];rfl
theorem Y30 {d : Db} {l : List Con} (hv : ValidDb d) : EOk d.2.length (edgesOf d l) := by
 refine ⟨hv.few, Y6g hv l, fun e he => ?_⟩;obtain ⟨i, hi, he⟩ := J1a.1 he;obtain ⟨k, hk, he⟩ := J1a.1 he;unfold edgeP at he;have h1 := Ji.1 hi;have h2 := List.mem_range'.1 hk;obtain ⟨q, h3, h4⟩ := h2;split at he
 ·grind
 ·simp at he
def maxSets (n : Nat) (E : List (Int × Int)) : List (List Int) := if validE E then walk n E n [] 0 else []
theorem Y79 {N n : Nat} {E : List (Int × Int)} (h : EOk n E) (hN : 1048576 < N) : Z12 N n E = some (maxSets n E) := by
 have hn := h.few;unfold Z12 Z8v maxSets;rw [Y6l h hN, J0];cases validE E with
 | false => rfl
 | true =>
  have := Y2z h hN n N [] 0 (by omega) (by omega) (by simp) (by simp);rw [show ((0 : Nat) : Int) = 0 from rfl] at this;rw [J9, J1, this];rfl
theorem Y7a {N n : Nat} {E : List (Int × Int)} (h : EOk n E) (hN : 1048576 < N) : Z10 N n E = some (maxSets n E) := by
 have hn := h.few;have p := Y5o hn;unfold Z10 Z19 maxSets;rw [Y6m h hN, J0];cases validE E with
 | false => rfl
 | true =>
  have := Y1w h hN n N [] 0 [] (by omega) (by omega) (by simp) (by simp; omega);rw [show ((0 : Nat) : Int) = 0 from rfl] at this;rw [J9, J1, this];rfl
def subsets (d : Db) (l : List Con) : List (List Int) := if validDb d then maxSets d.2.length (edgesOf d l) else []
theorem Y1j {d : Db} {l : List Con} (h : SmallDb d) (hl : l.length <= 1048576) (hN : 1048576 < N) : Z13 N d l = some (subsets d l) := by
 unfold Z13 subsets;rw [Yf h hN, J0];cases hv : validDb d with
 | false => rfl
 | true =>
  rw [J9, J1, Y3k h hl hN, J0, hv, Jc rfl, Y79 (Y30 (Y6 hv)) hN];rfl
theorem Ym {d : Db} {l : List Con} (h : SmallDb d) (hl : l.length <= 1048576) (hN : 1048576 < N) : Z0e N d l = some (subsets d l) := by
 unfold Z0e subsets;rw [Y24 h hN, J0];cases hv : validDb d with
 | false => rfl
 | true =>
  rw [J9, J1, Y6k h hl hN, J0, hv, Jc rfl, Y7a (Y30 (Y6 hv)) hN];rfl
theorem Yc (d : Db) (l : List Con) : (subsets d l).length <= 16384 /\ ∀ r ∈ subsets d l, r.length <= 14 := by
 unfold subsets;by_cases hv : validDb d = true
 ·rw [Jc hv];have hn := (Y6 hv).few;unfold maxSets;split
  ·refine ⟨Jj (Yu _ _ _) (Y5o hn), fun r hr => ?_⟩;have := Y2y d.2.length [] 0 (by simp) r hr;omega
  ·grind
 ·grind
theorem Y4i {S : Nat -> Nat -> Bool} {N : Nat} (hS : Runs S N) : ∀ n, n <= N -> (B S n).flatten = List.range n
 | 0, _ => by simp [B, sts]
 | n + 1, hn => by
  by_cases h : isSt S n = true
  ·rw [Y7o hS h, J2b, Y4i hS n (by omega), J1i]; simp
  ·have hn0 : 0 < n := by
    apply J1d;intro h0;have : n = 0 := by omega
    subst this;apply h;rw [Yd]; intro k hk; omega
   obtain ⟨A, t, e, h1, h2, h3⟩ := Y1r hS (n + 1) (by omega) hn;have e' : sts S n = A ++ [t] := by rw [Yo, Jm h, Jf] at e; exact e
   have ih := Y4i hS n (by omega);rw [Y7p hS h (by omega) e' (h3 n (by omega) (by omega)), J1i, <- ih];unfold B;rw [e'];simp only [Jy, J1p, List.map_nil, J2b, J1y, List.flatten_nil, Jf, J18]
def mx (w : List Int) (m x : Int) : Int := if at_ 0 w x > at_ 0 w m then x else m
def bestB (w b : List Int) : Int := b.foldl (mx w) (at_ 0 b 0)
theorem Y6n {w b : List Int} : ∀ {l : List Int} {m : Int}, m ∈ b -> (∀ x ∈ l, x ∈ b) -> l.foldl (mx w) m ∈ b
 | [], m, hm, _ => hm
 | x :: l, m, hm, h => by
  rw [List.foldl_cons];refine Y6n ?_ fun y hy => h y (by simp [hy]);unfold mx;split
  ·grind
  ·exact hm
theorem Y7b {b : List Int} (hb : b ≠ []) : at_ 0 b 0 ∈ b := by
 cases b with
 | nil => exact absurd rfl hb
 | cons x b =>
  rw [show at_ 0 (x :: b) 0 = x from Y4 (j := 0) (by simp)]; simp
theorem Y6o {w b : List Int} (hb : b ≠ []) : bestB w b ∈ b := Y6n (Y7b hb) fun x hx => hx
theorem Y2o : ∀ L : List (List Nat), (L.map toI).flatten = toI L.flatten
 | [] => rfl
 | b :: L => by rw [J1p, J1y, J1y, Y1t, Y2o L]
theorem Y2p {d : Db} (hvb : validDb d = true) : (blocksOf d).flatten = toI (List.range d.2.length) := by
 unfold blocksOf;rw [Jc hvb, Y2o, Y4i (runs (Y6 hvb)) _ (J1b _)]
theorem Y4j (n : Nat) : (toI (List.range n)).Pairwise (· < ·) := by
 unfold toI;rw [J17];exact List.Pairwise.imp (fun h => by omega) J14
def pw (w : List Int) : List Int -> Int
 | [] => 1
 | x :: l => at_ 0 w x * pw w l
def sizeP : List (List Int) -> Nat
 | [] => 1
 | b :: L => b.length * sizeP L
def nth : List (List Int) -> Nat -> List Int
 | [], _ => []
 | c :: C, k => c.getD (k % c.length) 0 :: nth C (k / c.length)
theorem Y2b : ∀ a b : List (List Int), sizeP (a ++ b) = sizeP a * sizeP b
 | [], b => by simp [sizeP]
 | x :: a, b => by simp only [List.cons_append, sizeP, Y2b a b, Nat.mul_assoc]
theorem Yn : ∀ a : List (List Int), sizeP a.reverse = sizeP a
 | [] => rfl
 | x :: a => by
  rw [J2g, Y2b, Yn a];simp only [sizeP, Nat.mul_one];exact Nat.mul_comm _ _
def Wts (w l : List Int) : Prop := ∀ x ∈ l, 1 <= at_ 0 w x /\ at_ 0 w x <= 9
theorem Y7c {a b : Int} (ha : 1 <= a) (hb : 1 <= b) : 1 <= a * b := by
 have := Int.mul_le_mul ha hb (by omega) (by omega);omega
theorem Y6p {w : List Int} : ∀ {l : List Int}, Wts w l -> 1 <= pw w l
 | [], _ => J1q 1
 | x :: l, h => Y7c (h x (by simp)).1 (Y6p fun y hy => h y (by simp [hy]))
theorem Y3l : ∀ {L : List (List Int)}, (∀ b ∈ L, b ≠ []) -> 1 <= sizeP L
 | [], _ => J1b 1
 | b :: L, h0 => by
  have : 0 < b.length := J12.2 (h0 b (by simp));have h3 := Y3l (L := L) fun x hx => h0 x (by simp [hx]);exact Nat.mul_pos this h3
theorem Y1x : ∀ {L : List (List Int)}, (∀ b ∈ L, b ≠ []) -> sizeP L <= 2 ^ (L.map List.length).sum
 | [], _ => by simp [sizeP]
 | b :: L, h0 => by
  have h2 := Y1x (L := L) fun x hx => h0 x (by simp [hx]);simp only [sizeP, J1p, List.sum_cons];rw [Nat.pow_add];exact Nat.mul_le_mul (Nat.le_of_lt Nat.lt_two_pow_self) h2
theorem Y88 {a b : Nat} (hb : 1 <= b) : a <= a * b := by
 have := Nat.mul_le_mul_left a hb;omega
theorem Y6q {w : List Int} : ∀ {C : List (List Int)} {k : Nat}, (∀ c ∈ C, c ≠ []) -> (∀ c ∈ C, Wts w c) -> pw w (nth C k) <= pw w (C.map (bestB w)) /\ Wts w (nth C k) /\ (nth C k).length = C.length
 | [], k, _, _ => ⟨J1q 1, fun x hx => by simp [nth] at hx, rfl⟩
 | c :: C, k, h0, h => by
  have hc : 0 < c.length := J12.2 (h0 c (by simp));have hk : k % c.length < c.length := J1w _ hc;obtain ⟨i1, i2, i3⟩ := Y6q (C := C) (k := k / c.length) (fun x hx => h0 x (by simp [hx])) fun x hx => h x (by simp [hx]);have hx : c.getD (k % c.length) 0 ∈ c := by rw [Y2 hk]; exact J4 hk
  have hw := h c (by simp) _ hx;have hb := h c (by simp) _ (Y6o (w := w) (h0 c (by simp)));have key : ∀ (l : List Int) (m : Int), at_ 0 w m <= at_ 0 w (l.foldl (mx w) m) /\ ∀ x ∈ l, at_ 0 w x <= at_ 0 w (l.foldl (mx w) m) := by
   intro l
   induction l with
   | nil => intro m; exact ⟨J1q _, by simp⟩
   | cons y l ih =>
    intro m;obtain ⟨a1, a2⟩ := ih (mx w m y);have a3 : at_ 0 w m <= at_ 0 w (mx w m y) /\ at_ 0 w y <= at_ 0 w (mx w m y) := by
     unfold mx;split <;> omega
    rw [List.foldl_cons];refine ⟨by omega, fun x hx => ?_⟩;rcases Je.1 hx with rfl | hx
    ·omega
    ·exact a2 x hx
  have hle : at_ 0 w (c.getD (k % c.length) 0) <= at_ 0 w (bestB w c) := (key c _).2 _ hx;have hp := Y6p i2;refine ⟨?_, fun x hx => ?_, by simp [nth, i3]⟩
  ·simp only [nth, pw, J1p];exact Int.mul_le_mul hle i1 (by omega) (by omega)
  ·simp only [nth, Je] at hx;rcases hx with rfl | hx
   ·exact hw
   ·exact i2 x hx
theorem Y8m {b : List (List Int)} (hbs : (b.map List.length).sum <= 14) (hbl : b.length <= 14) (h0 : ∀ x ∈ b, x ≠ []) (hN : 1048576 < N) : Z2t N N 1 (toI (b.map List.length)) 0 = some (sizeP b : Int) := by
 have hT := Y1x h0;have h2p : 2 ^ (b.map List.length).sum <= 2 ^ 14 := J1e (by decide) hbs;have hlen : (toI (b.map List.length)).length = b.length := by simp [toI]
 have := loop (fun k (s : Nat × Nat) => Z2t N k (s.1 : Int) (toI (b.map List.length)) (s.2 : Int)) (fun s => s.2 <= b.length /\ s.1 * sizeP (b.drop s.2) = sizeP b) (fun s => b.length - s.2) (fun o => o = some (sizeP b : Int)) (fun k s hs => by
  obtain ⟨n, j⟩ := s;obtain ⟨h1, h3⟩ := hs;simp only at h1 h3 ⊢;by_cases hj : j < b.length
  ·right;have e1 : (j : Int) < ((toI (b.map List.length)).length : Int) := by omega
   have i3 := Y3l (L := b.drop (j + 1)) fun x hx => h0 x (List.mem_of_mem_drop hx);rw [Jb hj, sizeP, <- Nat.mul_assoc] at h3;have p2 := Y88 (a := n * (b[j]).length) i3;have hj2 : j < (toI (b.map List.length)).length := by omega
   have eb : (toI (b.map List.length))[j] = ((b[j]).length : Int) := by simp [toI]
   have ew : w64 ((n : Int) * ((b[j]).length : Int)) = ((n * (b[j]).length : Nat) : Int) := by
    rw [<- Int.natCast_mul];exact Y5
   refine ⟨(n * (b[j]).length, j + 1), ⟨hj, h3⟩, by simp only; omega, ?_⟩;simp only [zS, Z2t, Z5g, e1, Y1 hj2, Y4 hj2, eb, ew, Y0 (j := j)]
  ·left;have : j = b.length := by omega
   subst this;rw [J1h, sizeP, Nat.mul_one] at h3;simp only [zS, Z2t, Z5g, hlen, J10, h3]) N (1, 0) (by simp only; omega) ⟨by simp, by simp⟩
 exact this
theorem Y6r {l : List Int} (hl : l.length <= 1000) (hs : l.Pairwise (· > ·)) (hN : 1048576 < N) : Z21 N l = some l.reverse := by
 unfold Z21 Z9a;have := loop (fun k (s : Nat) => Z0x N k l (l.take s).reverse (s : Int)) (fun s => s <= l.length) (fun s => l.length - s) (fun o => o = some l.reverse) (fun k s hs' => by
  by_cases hj : s < l.length
  ·right;refine ⟨s + 1, hj, by omega, ?_⟩;have h1 : (s : Int) < (l.length : Int) := by omega
   have hlen : ((l.take s).reverse).length = s := by rw [List.length_reverse, Jn]; omega
   have e0 : (l.take (s + 1)).reverse = l[s] :: (l.take s).reverse := by rw [J7 hj]; simp
   have hbig : ∀ q (hq : q < ((l.take s).reverse).length), ((l.take s).reverse)[q] > l[s] := by
    intro q hq;have hm : ((l.take s).reverse)[q] ∈ l.take s := J22.1 (J4 hq);obtain ⟨i, hi, he⟩ := Jd.1 hm;rw [<- he, J20];have hi2 : i < s := by rw [Jn] at hi; omega
    exact Jk.1 hs i s (by omega) hj hi2
   simp only [zS, Z0x, Z5s, h1, hlen];rw [e0];generalize (l.take s).reverse = out at *;have := loop (fun q (t : Nat) => Z2r (Z0x N k) N q l out (s : Int) (t : Int)) (fun t => t <= out.length) (fun t => t) (fun o => o = Z0x N k l (l[s] :: out) ((s + 1 : Nat) : Int)) (fun q t ht => by
    by_cases h0 : 0 < t
    ·right;refine ⟨t - 1, by omega, by omega, ?_⟩;have h2 : (t : Int) > 0 := by omega
     have h3 : t - 1 < out.length := by omega
     simp only [zS, Z2r, Z47, h2, Y8 h0 (by omega), Y1 h3, Y1 hj, Y4 h3, Y4 hj, hbig (t - 1) h3]
    ·left;have : t = 0 := by omega
     subst this;have so : subOk 0 0 out.length = true := Yl (by omega) (by omega) (by omega);have so2 : subOk 0 (out.length : Int) out.length = true := Yl (by omega) (by omega) (by omega);have a1 : appOk ([] : List Int) [] 8 = true := rfl;have a2 : appOk ([] : List Int) [l[s]] 8 = true := Y3;have a3 : appOk [l[s]] out 8 = true := Y3;have h2 : ¬ (0 : Int) > 0 := by omega
     simp only [zS, Z2r, Z47, Int.cast_ofNat_Int, h2, Int.toNat_zero, List.take_zero, J1v, so, so2, Y1 hj, Y4 hj, a1, a2, a3, J1k, List.singleton_append, Y0 (j := s)]) N s (by omega) (by omega)
   exact this
  ·left;have : s = l.length := by omega
   subst this;simp [Z0x, Z5s]) N 0 (by omega) (by omega)
 exact this
structure Good1 (d : Db) (w : List Int) : Prop where
 vb : validDb d = true
 len : w.length = d.2.length
 few : d.2.length <= 14
 wts : ∀ x, 0 <= x -> x < (d.2.length : Int) -> 1 <= at_ 0 w x /\ at_ 0 w x <= 9
theorem Y8t {d : Db} {w : List Int} (h : validWeights d w = true) : Good1 d w := by
 unfold validWeights at h;simp at h;obtain ⟨h1, h2, h3⟩ := h;refine ⟨h1, h2, (Y6 h1).few, fun x h0 hx => ?_⟩;rw [Y18 h0 (by omega)];exact of_decide_eq_true (Jh.1 h3 _ (J4 _))
structure Blks (n : Nat) (w : List Int) (L : List (List Int)) : Prop where
 ne : ∀ b ∈ L, b ≠ []
 sum : (L.map List.length).sum <= 14
 len : L.length <= 14
 each : ∀ b ∈ L, b.length <= 14
 ins : ∀ b ∈ L, ∀ x ∈ b, 0 <= x /\ x < (n : Int)
 wts : ∀ b ∈ L, Wts w b
 flat : L.flatten.Pairwise (· < ·)
theorem Good1.blks {d : Db} {w : List Int} (h : Good1 d w) : Blks d.2.length w (blocksOf d) := by
 obtain ⟨s1, s2, s3, s4⟩ := Y1g h.vb;have hf := h.few;have hin := Y36 h.vb;refine ⟨fun b hb => (Y26 h.vb b hb).1, ?_, by omega, fun b hb => (Y26 h.vb b hb).2, hin, fun b hb x hx => ?_, ?_⟩
 ·show (sizes d).sum <= 14;omega
 ·have := hin b hb x hx;exact h.wts x this.1 this.2
 ·rw [Y2p h.vb]; exact Y4j _
theorem Y11 {d : Db} {w : List Int} (h : SmallDb d) (hg : Good1 d w) (hN : 1048576 < N) : Z0v N d = some (sizeP (blocksOf d) : Int) := by
 have hb := hg.blks;unfold Z0v Z96;rw [Yf h hN, J0, hg.vb, J9, J1, Y67 h hN, J0];exact Y8m hb.sum hb.len hb.ne hN
theorem Y5c {N : Nat} {L : List (List Int)} (h0 : ∀ b ∈ L, b ≠ []) : ∀ (m f k : Nat) (out : List Int), m < f -> m <= L.length -> out.length + m <= 100 -> k <= 1000000 -> Z4p N f (k : Int) L out ((m : Int) - 1) = (Z21 N (out ++ nth (L.take m).reverse k)).bind fun r => some (r, true)
 | _, 0, _, _, hf, _, _, _ => by omega
 | 0, f + 1, k, out, hf, hm, ho, hk => by
  have h1 : ¬ ((0 : Nat) : Int) - 1 >= 0 := by omega
  simp only [Z4p, Z6u, J5 h1, J1, List.take_zero, List.reverse_nil, nth, Jf]
 | m + 1, f + 1, k, out, hf, hm, ho, hk => by
  have e1 : ((m + 1 : Nat) : Int) - 1 = (m : Int) := by omega
  have hj : m < L.length := by omega
  have hc : 0 < (L[m]).length := J12.2 (h0 _ (J4 hj));have hz : ((L[m]).length : Int) ≠ 0 := by omega
  have hq : k % (L[m]).length < (L[m]).length := J1w _ hc;have em : (k : Int).tmod ((L[m]).length : Int) = ((k % (L[m]).length : Nat) : Int) := rfl;have ed : (k : Int).tdiv ((L[m]).length : Int) = ((k / (L[m]).length : Nat) : Int) := rfl;have hd : k / (L[m]).length <= k := Nat.div_le_self _ _;have hd0 : (0 : Int) <= ((k / (L[m]).length : Nat) : Int) := Int.natCast_nonneg _;have hd1 : ((k / (L[m]).length : Nat) : Int) <= (k : Int) := Int.ofNat_le.2 hd;have h1 : (m : Int) >= 0 := by omega
  have e2 : (L.take (m + 1)).reverse = L[m] :: (L.take m).reverse := by simp_all
  simp only [zS, Z4p, Z6u, e1, J2 h1, Y1 hj, Y4 hj, Y23 hz, em, ed, Y1 hq, Y4 hq];rw [Y3, grd_true, Y5 (x := ((k / (L[m]).length : Nat) : Int)), Y5 (x := (m : Int) - 1), Y5c h0 m f _ _ (by omega) (by omega) (by simp; omega) (by omega), e2];simp only [nth, Y2 hq, J18, List.singleton_append]
theorem Y5d : ∀ {C : List (List Int)} {k : Nat}, (∀ c ∈ C, c ≠ []) -> ∀ y ∈ nth C k, ∃ c ∈ C, y ∈ c
 | [], k, _, y, hy => by simp [nth] at hy
 | c :: C, k, h0, y, hy => by
  have hc : 0 < c.length := J12.2 (h0 c (by simp));have hk : k % c.length < c.length := J1w _ hc;simp only [nth, Je] at hy;rcases hy with rfl | hy
  ·simp_all
  ·obtain ⟨c', h1, h2⟩ := Y5d (C := C) (fun x hx => h0 x (by simp [hx])) y hy;exact ⟨c', by simp [h1], h2⟩
theorem Y1y : ∀ {C : List (List Int)} {k : Nat}, (∀ c ∈ C, c ≠ []) -> C.Pairwise (fun b c => ∀ x ∈ b, ∀ y ∈ c, x > y) -> (nth C k).Pairwise (· > ·)
 | [], k, _, _ => by simp [nth]
 | c :: C, k, h0, hp => by
  have hc : 0 < c.length := J12.2 (h0 c (by simp));have hk : k % c.length < c.length := J1w _ hc;have h1 : ∀ x ∈ C, x ≠ [] := fun x hx => h0 x (by simp [hx]);rw [Jw] at hp;simp only [nth, Jw];refine ⟨fun y hy => ?_, Y1y h1 hp.2⟩;obtain ⟨c', h2, h3⟩ := Y5d h1 y hy;rw [Y2 hk];exact hp.1 c' h2 _ (J4 hk) y h3
theorem Blks.rev {n : Nat} {w : List Int} {L : List (List Int)} (h : Blks n w L) : (∀ c ∈ L.reverse, c ≠ []) /\ L.reverse.Pairwise (fun b c => ∀ x ∈ b, ∀ y ∈ c, x > y) := by
 refine ⟨fun c hc => h.ne c (J22.1 hc), ?_⟩;rw [List.pairwise_reverse];refine ((J24.1 h.flat).2).imp fun h1 x hx y hy => ?_;exact h1 y hy x hx
def repN (L : List (List Int)) (k : Nat) : List Int := (nth L.reverse k).reverse
theorem nthV {d : Db} {w : List Int} (h : SmallDb d) (hg : Good1 d w) (hN : 1048576 < N) {k : Nat} (hk : k < sizeP (blocksOf d)) : Z59 N d k = some (repN (blocksOf d) k, true) := by
 have hb := hg.blks;have hs := Y1x hb.ne;have h2p : 2 ^ ((blocksOf d).map List.length).sum <= 2 ^ 14 := J1e (by decide) hb.sum;unfold Z59 Z0ac;rw [Y11 h hg hN, J0, Y5, l1In, J0, J2 (by omega), J9, J1, Y1u h hN, J0];have hl := hb.len;have := Y5c (N := N) hb.ne (blocksOf d).length N k [] (by omega) (J1b _) (by simp; omega) (by omega);rw [Y5, this, J19, J1k];have hlen := (Y6q (w := w) (k := k) hb.rev.1 fun c hc => hb.wts c (J22.1 hc)).2.2;rw [Y6r (by grind) (Y1y hb.rev.1 hb.rev.2) hN];rfl
theorem Y1k {n : Nat} {l : List Int} (hs : l.Pairwise (· < ·)) (hin : ∀ x ∈ l, 0 <= x /\ x < (n : Int)) : validSet n l = true := by
 unfold validSet;rw [J6];intro j hj;have h1 := hin _ (J4 hj);rw [J8, J6, Y2 hj];refine ⟨by omega, ?_⟩;by_cases h0 : j = 0
 ·simp [h0]
 ·have h4 : j - 1 < l.length := by omega
  rw [Y2 h4, J2 (Jk.1 hs (j - 1) j h4 hj (by omega)), Bool.or_true]
theorem Y5p (S : Nat -> Nat -> Bool) (n : Nat) : (sts S n).Pairwise (· < ·) := J28 _ (J14)
theorem Y89 {S : Nat -> Nat -> Bool} {n : Nat} (hS : Runs S n) : (B S n).Pairwise (fun b c => ∀ x ∈ b, ∀ y ∈ c, S y x = false) := by
 unfold B;rw [J17];refine (Y5p S n).imp_of_mem fun {s t} hs ht hlt x hx y hy => ?_;have h1 : S s x = true := (Jv.1 hx).2;have h2 : S t y = true := (Jv.1 hy).2;rw [J1l];intro h3;have h4 := hS.trans _ _ _ (hS.trans _ _ _ h2 h3) (hS.symm _ _ h1);rw [Yd.1 (Y1m.1 ht).2 s hlt] at h4;simp at h4
def subDb (d : Db) (l : List Int) : Db := (d.1, l.map fun x => factAt d x.toNat)
theorem Y5e {d : Db} {l : List Int} (h : SmallDb d) (hvb : validDb d = true) (hs : l.Pairwise (· < ·)) (hin : ∀ x ∈ l, 0 <= x /\ x < (d.2.length : Int)) (hl : l.length <= 14) (hN : 1048576 < N) : Z2s N d l = some (subDb d l, true) := by
 have hr := h.rels;unfold Z2s Z9n;rw [Yf h hN, J0, hvb, J9, J1, Y7z h (by omega) hN, J0, Y1k hs hin, J9, J1, Y3, grd_true];have := loop (fun k (s : Nat) => Z4z N k l d.1 d.2 [] [] d.1 ((l.take s).map fun x => factAt d x.toNat) (s : Int)) (fun s => s <= l.length) (fun s => l.length - s) (fun o => o = some (subDb d l, true)) (fun k j hj' => by
  simp only [Z4z, Z8a];by_cases hj : j < l.length
  ·right;refine ⟨j + 1, hj, by omega, ?_⟩;have h1 : (j : Int) < (l.length : Int) := by omega
   have h2 := hin _ (J4 hj);have h3 : (l[j]).toNat < d.2.length := by omega
   have e : at_ (0, []) d.2 l[j] = factAt d (l[j]).toNat := by
    have := Yb h3
    rwa [show (((l[j]).toNat : Nat) : Int) = l[j] by omega] at this
   have h4 := Y14 h h3;simp only [zS, h1, Y1 hj, Y4 hj, Y9 h2.1 h2.2, e];rw [Y3, grd_true, Y3, grd_true, Y0, J7 hj, Jy];rfl
  ·left;have h1 : ¬ (j : Int) < (l.length : Int) := by omega
   simp only [zS, h1];rw [Js (by omega)];rfl) N 0 (by omega) (by omega)
 exact this
theorem Ys {d : Db} {l : List Int} {j : Nat} (hj : j < l.length) : factAt (subDb d l) j = factAt d (l[j]).toNat := by
 show ((l.map fun x => factAt d x.toNat).getD j (0, [])) = _;rw [Y2 (by simp; exact hj), List.getElem_map]
theorem Y3m {d : Db} {l : List Int} (hvb : validDb d = true) (hs : l.Pairwise (· < ·)) (hin : ∀ x ∈ l, 0 <= x /\ x < (d.2.length : Int)) (hl : l.length <= 14) : validDb (subDb d l) = true := by
 have hv := Y6 hvb;have hlen : (subDb d l).2.length = l.length := by simp [subDb]
 unfold validDb;rw [J8, J8, J6, J6];refine ⟨hv.rels, by omega, fun j hj => ?_⟩;have hj2 : j < l.length := by omega
 have h1 := hin _ (J4 hj2);rw [Ys hj2, J8];refine ⟨hv.fact _ (by omega), ?_⟩;by_cases h0 : j = 0
 ·simp [h0]
 ·have h4 : j - 1 < l.length := by omega
  have h5 := Jk.1 hs (j - 1) j h4 hj2 (by omega);have h6 := hin _ (J4 h4);rw [Ys h4, J2 (hv.lt _ _ (by omega) (by omega)), Bool.or_true]
theorem Yt {n : Nat} {l : List Int} (h : validSet n l = true) : l.Pairwise (· < ·) := by
 have step : ∀ j (hj : j < l.length), 0 < j -> l[j - 1]'(by omega) < l[j] := by
  intro j hj h0;have := of_decide_eq_true h j hj;rw [J8, J2i, J6, J6, J6, Y2 hj, Y2 (show j - 1 < l.length by omega)] at this;rcases this.2 with h1 | h1
  ·omega
  ·exact h1
 rw [Jk];intro i j hi hj hij
 induction j with
 | zero => omega
 | succ j ih =>
  have hs := step (j + 1) hj (by omega);simp only [J2c] at hs;by_cases e : i = j
  ·subst e; exact hs
  ·have := ih (by omega) (by omega);omega
theorem Y16 {n : Nat} {E : List (Int × Int)} : ∀ (m : Nat) (s : List Int) (x : Nat), ∀ r ∈ walk n E m s x, validSet n r = true
 | 0, s, x, r, hr => by
  simp only [walk] at hr;split at hr
  ·rename_i hm;simp only [J1c] at hr;subst hr;simp only [maxI, J8] at hm;exact hm.2.1
  ·simp at hr
 | m + 1, s, x, r, hr => by
  simp only [walk, Jx] at hr;rcases hr with hr | hr
  ·split at hr
   ·exact Y16 m _ _ r hr
   ·simp at hr
  ·exact Y16 m _ _ r hr
theorem Y3h (d : Db) (l : List Con) : ∀ r ∈ subsets d l, r.Pairwise (· < ·) := by
 intro r hr;unfold subsets at hr;by_cases hv : validDb d = true
 ·rw [Jc hv] at hr;unfold maxSets at hr;split at hr
  ·exact Yt (Y16 _ _ _ r hr)
  ·simp at hr
 ·rw [Jm hv] at hr; simp at hr
theorem Y5q {E : List (Int × Int)} {s s' : List Int} (h : ∀ y ∈ s, y ∈ s') (hi : indep E s' = true) : indep E s = true := by
 unfold indep at hi ⊢;rw [Jh] at hi ⊢;intro e he;have := hi e he;simp at this ⊢;rcases this with h1 | h1
 ·grind
 ·grind
theorem Yq {n : Nat} {E : List (Int × Int)} {r : List Int} (h : maxI n E r = true) : validE E = true /\ validSet n r = true /\ indep E r = true := by
 unfold maxI at h;simp at h;exact ⟨h.1, h.2.1, h.2.2.1⟩
theorem Y31 {n : Nat} {E : List (Int × Int)} {r : List Int} (hr : maxI n E r = true) : ∀ (m : Nat) (s t : List Int) (x : Nat), x + m = n -> r = s ++ t -> (∀ y ∈ t, (x : Int) <= y) -> r ∈ walk n E m s x
 | 0, s, t, x, hx, he, ht => by
  have : t = [] := by
   cases t with
   | nil => rfl
   | cons y t =>
    have h1 := ht y (by simp);obtain ⟨j, hj, e⟩ := J1s (show y ∈ r by rw [he]; simp);have := Y1h (Yq hr).2.1 hj;omega
  subst this;rw [Jf] at he;subst he;simp [walk, hr]
 | m + 1, s, t, x, hx, he, ht => by
  have hsort := Yt (Yq hr).2.1;have hts : t.Pairwise (· < ·) := by grind
  simp only [walk, Jx];by_cases hxr : (x : Int) ∈ t
  ·cases t with
   | nil => simp at hxr
   | cons y t =>
    have hyx : y = (x : Int) := by
     rcases Je.1 hxr with h | h
     ·exact h.symm
     ·have h1 := (Jw.1 hts).1 _ h;have h2 := ht y (by simp);omega
    subst hyx;left;rw [Jc (Y5q (fun y hy => by rw [he]; rcases Jx.1 hy with h | h; exact List.mem_append_left _ h; exact List.mem_append_right _ (by grind)) (Yq hr).2.2)];refine Y31 hr m (s ++ [(x : Int)]) t (x + 1) (by omega) (by simp [he]) fun z hz => ?_;have := (Jw.1 hts).1 _ hz;omega
  ·right;refine Y31 hr m s t (x + 1) (by omega) he fun y hy => ?_;have h1 := ht y hy;have h2 : y ≠ (x : Int) := fun e => hxr (e ▸ hy);omega
theorem Y32 {n : Nat} {E : List (Int × Int)} : ∀ (m : Nat) (s : List Int) (x : Nat), ∀ r ∈ walk n E m s x, maxI n E r = true
 | 0, s, x, r, hr => by
  simp only [walk] at hr;split at hr
  ·grind
  ·simp at hr
 | m + 1, s, x, r, hr => by
  simp only [walk, Jx] at hr;rcases hr with hr | hr
  ·split at hr
   ·exact Y32 m _ _ r hr
   ·simp at hr
  ·exact Y32 m _ _ r hr
theorem Y2q {d : Db} {l : List Con} {r : List Int} : r ∈ subsets d l ↔ validDb d = true /\ maxI d.2.length (edgesOf d l) r = true := by
 unfold subsets maxSets;constructor
 ·intro h;split at h
  ·rename_i hv;split at h
   ·exact ⟨hv, Y32 _ _ _ r h⟩
   ·simp at h
  ·simp at h
 ·intro ⟨hv, hm⟩;have hvs := (Yq hm).2.1;rw [Jc hv, Jc (Yq hm).1];refine Y31 hm _ [] r 0 (by omega) (by simp) fun y hy => ?_;obtain ⟨j, hj, rfl⟩ := J1s hy;have := Y1h hvs hj;omega
def picks : List (List Int) -> List Int -> Prop
 | [], [] => True
 | b :: L, x :: r => x ∈ b /\ picks L r
 | _, _ => False
theorem Y3n : ∀ {L : List (List Int)} {r : List Int}, picks L r -> r.length = L.length
 | [], [], _ => rfl
 | [], _ :: _, h => h.elim
 | _ :: _, [], h => h.elim
 | b :: L, x :: r, h => by simp [Y3n h.2]
theorem Y2c : ∀ {A : List (List Int)} {a : List Int} {B : List (List Int)} {b : List Int}, picks A a -> picks B b -> picks (A ++ B) (a ++ b)
 | [], [], _, _, _, h => h
 | [], _ :: _, _, _, h, _ => h.elim
 | _ :: _, [], _, _, h, _ => h.elim
 | c :: A, x :: a, _, _, h, h2 => ⟨h.1, Y2c h.2 h2⟩
theorem Y12 : ∀ {A : List (List Int)} {a : List Int}, picks A a -> picks A.reverse a.reverse
 | [], [], _ => trivial
 | [], _ :: _, h => h.elim
 | _ :: _, [], h => h.elim
 | c :: A, x :: a, h => by
  rw [J2g, J2g];exact Y2c (Y12 h.2) ⟨h.1, trivial⟩
theorem Y3o : ∀ {C : List (List Int)} (k : Nat), (∀ c ∈ C, c ≠ []) -> picks C (nth C k)
 | [], _, _ => trivial
 | c :: C, k, h => by
  have h0 : 0 < c.length := J12.2 (h c (by simp));refine ⟨?_, Y3o _ fun x hx => h x (by simp [hx])⟩;rw [Y2 (J1w k h0)];exact J4 _
theorem Y3p : ∀ {C : List (List Int)} {r : List Int}, picks C r -> ∃ k, k < sizeP C /\ nth C k = r
 | [], [], _ => ⟨0, by decide, rfl⟩
 | [], _ :: _, h => h.elim
 | _ :: _, [], h => h.elim
 | c :: C, x :: r, h => by
  obtain ⟨k, h1, h2⟩ := Y3p h.2;obtain ⟨j, hj, e⟩ := J1s h.1;refine ⟨j + c.length * k, ?_, ?_⟩
  ·show j + c.length * k < c.length * sizeP C;have : c.length * (k + 1) <= c.length * sizeP C := Nat.mul_le_mul_left _ h1;rw [Nat.mul_add] at this;omega
  ·show c.getD ((j + c.length * k) % c.length) 0 :: nth C ((j + c.length * k) / c.length) = x :: r;rw [Nat.add_mul_mod_self_left, Nat.mod_eq_of_lt hj, Nat.add_mul_div_left _ _ (by omega), Nat.div_eq_of_lt hj, Nat.zero_add, h2, Y2 hj, e]
theorem Y5f : ∀ {C : List (List Int)} {k k' : Nat}, (∀ c ∈ C, c.Nodup) -> (∀ c ∈ C, c ≠ []) -> k < sizeP C -> k' < sizeP C -> nth C k = nth C k' -> k = k'
 | [], k, k', _, _, h1, h2, _ => by
  simp only [sizeP] at h1 h2;omega
 | c :: C, k, k', hd, hne, h1, h2, h => by
  have h0 : 0 < c.length := J12.2 (hne c (by simp));simp only [nth, List.cons.injEq] at h;obtain ⟨e1, e2⟩ := h;have m1 := J1w k h0;have m2 := J1w k' h0;rw [Y2 m1, Y2 m2] at e1;have e3 : k % c.length = k' % c.length := by
   have hp := Jk.1 (hd c (by simp));rcases Nat.lt_trichotomy (k % c.length) (k' % c.length) with h | h | h
   ·exact absurd e1 (hp _ _ m1 m2 h)
   ·exact h
   ·exact absurd e1.symm (hp _ _ m2 m1 h)
  have h1' : k < c.length * sizeP C := h1;have h2' : k' < c.length * sizeP C := h2;have e4 := Y5f (fun x hx => hd x (by simp [hx])) (fun x hx => hne x (by simp [hx])) (Nat.div_lt_of_lt_mul h1') (Nat.div_lt_of_lt_mul h2') e2;rw [<- Nat.div_add_mod k c.length, <- Nat.div_add_mod k' c.length, e3, e4]
theorem Y2d : ∀ {L : List (List Int)} {r : List Int}, picks L r -> (∀ x ∈ r, ∃ b ∈ L, x ∈ b) /\ ∀ b ∈ L, ∃ x ∈ r, x ∈ b
 | [], [], _ => by simp
 | [], _ :: _, h => h.elim
 | _ :: _, [], h => h.elim
 | c :: L, z :: r, h => by
  obtain ⟨h1, h2⟩ := Y2d h.2;constructor
  ·intro x hx;rcases Je.1 hx with e | hx
   ·exact ⟨c, by simp, e ▸ h.1⟩
   ·obtain ⟨b, k1, k2⟩ := h1 x hx;exact ⟨b, by simp [k1], k2⟩
  ·intro b hb;rcases Je.1 hb with e | hb
   ·exact ⟨z, by simp, e ▸ h.1⟩
   ·obtain ⟨x, k1, k2⟩ := h2 b hb;exact ⟨x, by simp [k1], k2⟩
def Ordd (L : List (List Int)) : Prop := L.Pairwise fun b c => ∀ x ∈ b, ∀ y ∈ c, x < y
theorem Y3q : ∀ {L : List (List Int)} {r : List Int}, Ordd L -> picks L r -> ∀ b ∈ L, ∀ x ∈ r, ∀ y ∈ r, x ∈ b -> y ∈ b -> x = y
 | [], [], _, _ => by simp
 | [], _ :: _, _, h => h.elim
 | _ :: _, [], _, h => h.elim
 | c :: L, z :: r, ho, h => by
  obtain ⟨o1, o2⟩ := Jw.1 ho;have hm := (Y2d h.2).1;have far : ∀ x ∈ r, x ∉ c := fun x hx hc => by
   obtain ⟨b, k1, k2⟩ := hm x hx;have := o1 b k1 x hc x k2;omega
  intro b hb x hx y hy hxb hyb;rcases Je.1 hb with e | hb
  ·subst e;rcases Je.1 hx with e1 | hx
   ·rcases Je.1 hy with e2 | hy
    ·rw [e1, e2]
    ·exact absurd hyb (far y hy)
   ·exact absurd hxb (far x hx)
  ·have nz : z ∉ b := fun hz => by
    have := o1 b hb z h.1 z hz;omega
   rcases Je.1 hx with e1 | hx
   ·exact absurd (e1 ▸ hxb) nz
   ·rcases Je.1 hy with e2 | hy
    ·exact absurd (e2 ▸ hyb) nz
    ·exact Y3q o2 h.2 b hb x hx y hy hxb hyb
theorem Y4k : ∀ {L : List (List Int)} {r : List Int}, Ordd L -> r.Pairwise (· < ·) -> (∀ x ∈ r, ∃ b ∈ L, x ∈ b) -> (∀ b ∈ L, ∃ x ∈ r, x ∈ b) -> (∀ b ∈ L, ∀ x ∈ r, ∀ y ∈ r, x ∈ b -> y ∈ b -> x = y) -> picks L r
 | [], [], _, _, _, _, _ => trivial
 | [], x :: r, _, _, h, _, _ => by
  obtain ⟨b, k, _⟩ := h x (by simp);simp at k
 | c :: L, [], _, _, _, h, _ => by
  obtain ⟨x, k, _⟩ := h c (by simp);simp at k
 | c :: L, z :: r, ho, hs, h1, h2, h3 => by
  obtain ⟨o1, o2⟩ := Jw.1 ho;obtain ⟨s1, s2⟩ := Jw.1 hs;have hz : z ∈ c := by
   obtain ⟨b, k1, k2⟩ := h1 z (by simp);rcases Je.1 k1 with e | k1
   ·exact e ▸ k2
   ·obtain ⟨y, y1, y2⟩ := h2 c (by simp);have a1 := o1 b k1 y y2 z k2;rcases Je.1 y1 with e | y1
    ·omega
    ·have := s1 y y1;omega
  refine ⟨hz, Y4k o2 s2 (fun x hx => ?_) (fun b hb => ?_) fun b hb x hx y hy => h3 b (by simp [hb]) x (by simp [hx]) y (by simp [hy])⟩
  ·obtain ⟨b, k1, k2⟩ := h1 x (by simp [hx]);rcases Je.1 k1 with e | k1
   ·have a1 := h3 c (by simp) z (by simp) x (by simp [hx]) hz (e ▸ k2);have := s1 x hx;omega
   ·exact ⟨b, k1, k2⟩
  ·obtain ⟨x, k1, k2⟩ := h2 b (by simp [hb]);rcases Je.1 k1 with e | k1
   ·have := o1 b hb z hz x k2;omega
   ·exact ⟨x, k1, k2⟩
structure Parts (n : Nat) (S : Nat -> Nat -> Bool) (L : List (List Int)) : Prop where
 ne : ∀ b ∈ L, b ≠ []
 ins : ∀ b ∈ L, ∀ x ∈ b, 0 <= x /\ x < (n : Int)
 ord : Ordd L
 cover : ∀ x : Int, 0 <= x -> x < (n : Int) -> ∃ b ∈ L, x ∈ b
 same : ∀ b ∈ L, ∀ x ∈ b, ∀ y ∈ b, S x.toNat y.toNat = true
 apart : L.Pairwise fun b c => ∀ x ∈ b, ∀ y ∈ c, S y.toNat x.toNat = false
 symm : ∀ i k, S i k = true -> S k i = true
theorem Y6s {α : Type} {R} : ∀ {L : List α}, L.Pairwise R -> ∀ b ∈ L, ∀ c ∈ L, b = c \/ R b c \/ R c b
 | [], _ => by simp
 | a :: L, h => by
  obtain ⟨h1, h2⟩ := Jw.1 h;intro b hb c hc;rcases Je.1 hb with e1 | hb <;> rcases Je.1 hc with e2 | hc
  ·left; rw [e1, e2]
  ·right; left; rw [e1]; exact h1 c hc
  ·right; right; rw [e2]; exact h1 b hb
  ·exact Y6s h2 b hb c hc
theorem Parts.eq {n : Nat} {S : Nat -> Nat -> Bool} {L : List (List Int)} (h : Parts n S L) {b c : List Int} (hb : b ∈ L) (hc : c ∈ L) {x y : Int} (hx : x ∈ b) (hy : y ∈ c) (hS : S x.toNat y.toNat = true) : b = c := by
 rcases Y6s h.apart b hb c hc with e | k | k
 ·exact e
 ·have := k x hx y hy;rw [h.symm _ _ hS] at this;cases this
 ·have := k y hy x hx;rw [hS] at this;cases this
def EdgeS (n : Nat) (S : Nat -> Nat -> Bool) (E : List (Int × Int)) : Prop := ∀ i k : Int, (i, k) ∈ E ↔ (0 <= i /\ i < k /\ k < (n : Int) /\ S i.toNat k.toNat = true)
theorem Yk {E : List (Int × Int)} {s : List Int} : indep E s = true ↔ ∀ i k, (i, k) ∈ E -> i ∈ s -> k ∈ s -> False := by
 unfold indep;rw [Jh];constructor
 ·intro h i k he h1 h2;have := h (i, k) he;simp [h1, h2] at this
 ·intro h e he;simp only [J1z, Bool.and_eq_false_iff, J1x];by_cases h1 : e.1 ∈ s
  ·exact .inr fun h2 => h e.1 e.2 he h1 h2
  ·exact .inl h1
theorem Y4l {n : Nat} {S : Nat -> Nat -> Bool} {L : List (List Int)} {E : List (Int × Int)} (hP : Parts n S L) (hE : EdgeS n S E) {r : List Int} (hi : indep E r = true) : ∀ b ∈ L, ∀ x ∈ r, ∀ y ∈ r, x ∈ b -> y ∈ b -> x = y := by
 intro b hb x hx y hy hxb hyb;have i1 := hP.ins b hb x hxb;have i2 := hP.ins b hb y hyb;rcases Int.lt_trichotomy x y with h | h | h
 ·exact (Yk.1 hi x y ((hE x y).2 ⟨i1.1, h, i2.2, hP.same b hb x hxb y hyb⟩) hx hy).elim
 ·exact h
 ·exact (Yk.1 hi y x ((hE y x).2 ⟨i2.1, h, i1.2, hP.same b hb y hyb x hxb⟩) hy hx).elim
theorem Y5r {n : Nat} {S : Nat -> Nat -> Bool} {L : List (List Int)} {E : List (Int × Int)} (hP : Parts n S L) (hE : EdgeS n S E) (hvE : validE E = true) {r : List Int} : maxI n E r = true ↔ (r.Pairwise (· < ·) /\ picks L r) := by
 constructor
 ·intro h;obtain ⟨_, hvs, hi⟩ := Yq h;have hs := Yt hvs;have hin : ∀ x ∈ r, 0 <= x /\ x < (n : Int) := fun x hx => by
   obtain ⟨j, hj, rfl⟩ := J1s hx;exact Y1h hvs hj
  have hfit : ∀ x : Nat, x < n -> fitsE E r (x : Int) = false := fun x hx => by
   unfold maxI at h;simp only [J8, J6] at h;simpa using h.2.2.2 x hx
  refine ⟨hs, Y4k hP.ord hs (fun x hx => hP.cover x (hin x hx).1 (hin x hx).2) (fun b hb => ?_) (Y4l hP hE hi)⟩;by_cases he : ∃ x ∈ r, x ∈ b
  ·exact he
  exfalso;obtain ⟨x, hxb⟩ := List.exists_mem_of_ne_nil b (hP.ne b hb);have hx := hP.ins b hb x hxb;have hxr : x ∉ r := fun h => he ⟨x, h, hxb⟩;have hf := hfit x.toNat (by omega);rw [show ((x.toNat : Nat) : Int) = x by omega] at hf;unfold fitsE at hf;rw [J5 hxr, Jq, Ja] at hf;have : indep E (r ++ [x]) = true := by
   rw [Yk];intro i k hek h1 h2;obtain ⟨g1, g2, g3, g4⟩ := (hE i k).1 hek;rw [Jx, J1c] at h1 h2;rcases h1 with h1 | h1 <;> rcases h2 with h2 | h2
   ·exact Yk.1 hi i k hek h1 h2
   ·subst h2;obtain ⟨c, c1, c2⟩ := hP.cover i g1 (by omega);have := hP.eq c1 hb c2 hxb g4;exact he ⟨i, h1, this ▸ c2⟩
   ·subst h1;obtain ⟨c, c1, c2⟩ := hP.cover k (by omega) g3;have := hP.eq hb c1 hxb c2 g4;exact he ⟨k, h2, this ▸ c2⟩
   ·omega
  rw [this] at hf;cases hf
 ·intro ⟨hs, hp⟩;obtain ⟨m1, m2⟩ := Y2d hp;have hone := Y3q hP.ord hp;unfold maxI;simp only [J8, J6];refine ⟨hvE, Y1k hs (fun x hx => ?_), ?_, fun x hx => ?_⟩
  ·obtain ⟨b, k1, k2⟩ := m1 x hx;exact hP.ins b k1 x k2
  ·rw [Yk];intro i k hek h1 h2;obtain ⟨g1, g2, g3, g4⟩ := (hE i k).1 hek;obtain ⟨b, b1, b2⟩ := m1 i h1;obtain ⟨c, c1, c2⟩ := m1 k h2;have e := hP.eq b1 c1 b2 c2 g4;have := hone b b1 i h1 k h2 b2 (e ▸ c2);omega
  ·unfold fitsE;by_cases hxr : (x : Int) ∈ r
   ·simp [hxr]
   ·obtain ⟨b, b1, b2⟩ := hP.cover (x : Int) (by omega) (by omega);obtain ⟨y, y1, y2⟩ := m2 b b1;have i1 := hP.ins b b1 y y2;have : indep E (r ++ [(x : Int)]) = false := by
     cases hc : indep E (r ++ [(x : Int)]) with
     | false => rfl
     | true =>
      exfalso;rcases Int.lt_trichotomy (x : Int) y with h | h | h
      ·exact Yk.1 hc x y ((hE x y).2 ⟨by omega, h, i1.2, hP.same b b1 x b2 y y2⟩) (by simp) (by simp [y1])
      ·exact hxr (h ▸ y1)
      ·exact Yk.1 hc y x ((hE y x).2 ⟨i1.1, h, by omega, hP.same b b1 y y2 x b2⟩) (by simp [y1]) (by simp)
    rw [this, Ju, Jq]
theorem Y2e : ∀ {a b : List (List Int)}, a.Nodup -> (∀ x ∈ a, x ∈ b) -> a.length <= b.length
 | [], _, _, _ => by simp
 | x :: a, b, hd, h => by
  obtain ⟨d1, d2⟩ := List.nodup_cons.1 hd;have hx : x ∈ b := h x (by simp);have := Y2e (a := a) (b := b.erase x) d2 fun y hy => (List.mem_erase_of_ne (fun e => d1 (by rw [<- e]; exact hy))).2 (h y (by simp [hy]));rw [List.length_erase_of_mem hx] at this;have : 0 < b.length := List.length_pos_of_mem hx;simp only [J2h];omega
theorem Y1e {n : Nat} {E : List (Int × Int)} : ∀ (m : Nat) (s : List Int) (x : Nat), ∀ r ∈ walk n E m s x, ∃ t, r = s ++ t /\ ∀ y ∈ t, (x : Int) <= y
 | 0, s, x, r, hr => by
  simp only [walk] at hr;split at hr
  ·rw [J1c] at hr;exact ⟨[], by simp [hr], by simp⟩
  ·simp at hr
 | m + 1, s, x, r, hr => by
  simp only [walk, Jx] at hr;rcases hr with hr | hr
  ·split at hr
   ·obtain ⟨t, h1, h2⟩ := Y1e m _ _ r hr;refine ⟨(x : Int) :: t, by simp [h1], fun y hy => ?_⟩;rcases Je.1 hy with e | hy
    ·omega
    ·have := h2 y hy;omega
   ·simp at hr
  ·obtain ⟨t, h1, h2⟩ := Y1e m _ _ r hr;exact ⟨t, h1, fun y hy => by have := h2 y hy; omega⟩
theorem Y1z {n : Nat} {E : List (Int × Int)} : ∀ (m : Nat) (s : List Int) (x : Nat), (∀ y ∈ s, y < (x : Int)) -> (walk n E m s x).Nodup
 | 0, s, x, _ => by
  simp only [walk];split <;> simp
 | m + 1, s, x, hs => by
  simp only [walk];rw [List.nodup_append];refine ⟨?_, Y1z m _ _ (fun y hy => by have := hs y hy; omega), fun a ha b hb e => ?_⟩
  ·split
   ·refine Y1z m _ _ fun y hy => ?_;rcases Jx.1 hy with hy | hy
    ·have := hs y hy; omega
    ·rw [J1c] at hy; omega
   ·simp
  ·subst e;split at ha
   ·obtain ⟨t, h1, h2⟩ := Y1e m _ _ a ha;obtain ⟨t', h3, h4⟩ := Y1e m _ _ a hb;have hx : (x : Int) ∈ a := by rw [h1]; simp
    rw [h3] at hx;rcases Jx.1 hx with hx | hx
    ·have := hs _ hx; omega
    ·have := h4 _ hx; omega
   ·simp at ha
def uni : List Int -> List Int -> List Int -> Option (List Int)
 | [], _, x => some x
 | _ :: _, [], _ => none
 | t :: ts, w :: ws, x => if t < 0 then (if -1 - t = w then uni ts ws x else none)
  else if x.getD t.toNat 0 >= 0 then (if x.getD t.toNat 0 = w then uni ts ws x else none)
  else uni ts ws (x.set t.toNat w)
theorem Y2l : ∀ {ts ws x y : List Int}, uni ts ws x = some y -> y.length = x.length
 | [], _, x, y, h => by simp only [uni, J1m] at h; rw [h]
 | _ :: _, [], _, _, h => by simp [uni] at h
 | t :: ts, w :: ws, x, y, h => by
  simp only [uni] at h;split at h
  ·split at h
   ·exact Y2l h
   ·cases h
  ·split at h
   ·split at h
    ·exact Y2l h
    ·cases h
   ·have := Y2l h
    rwa [J2j] at this
theorem Y7d {x : List Int} {t : Nat} (h : t < x.length) {w : Int} (hw : x.getD t 0 = w) : x.set t w = x := by
 rw [Y2 h] at hw;rw [<- hw];exact List.set_getElem_self h
theorem Y2m {N n : Nat} {a2 f2 : Int} {ts ws : List Int} (hts : ts.length <= 3) (hl : ts.length = ws.length) (hn : n <= 4) (ht : termsOk n ts = true) (hN : 1048576 < N) : ∀ (f q : Nat) (x : List Int), ts.length - q < f -> q <= ts.length -> x.length = n -> ∃ y, Z7b N f a2 ts f2 ws x (q : Int) = some (y, (uni (ts.drop q) (ws.drop q) x).isSome) /\ ∀ z, uni (ts.drop q) (ws.drop q) x = some z -> y = z
 | 0, q, x, hf, _, _ => by omega
 | f + 1, q, x, hf, hq', hx => by
  simp only [Z7b, Z0a0];by_cases hq : q < ts.length
  ·have e1 : (q : Int) < (ts.length : Int) := by omega
   have hqw : q < ws.length := by omega
   have hb := of_decide_eq_true (Jh.1 ht _ (J4 hq));rw [Jb hq, Jb hqw];simp only [zS, e1, Y1 hq, Y4 hq, Y1 hqw, Y4 hqw, Y0 (j := q), uni, bneI];by_cases h0 : ts[q] < 0
   ·rw [J2 h0, J3, Jc h0, Y5];by_cases h1 : -1 - ts[q] = ws[q]
    ·rw [J2 h1, J9, J1, Jc h1];exact Y2m hts hl hn ht hN f (q + 1) x (by omega) hq hx
    ·rw [J5 h1, Jq, J3, Jm h1];exact ⟨x, rfl, fun z hz => by cases hz⟩
   ·obtain ⟨t, e⟩ : ∃ t : Nat, ts[q] = (t : Int) := ⟨ts[q].toNat, by omega⟩;have htx : t < x.length := by omega
    rw [J5 h0, J1, Jm h0, e, Y1 htx, grd_true, grd_true, Jl, Y4 htx, Y2 htx];by_cases h1 : x[t] >= 0
    ·rw [J2 h1, J3, Jc h1];by_cases h2 : x[t] = ws[q]
     ·rw [J2 h2, J9, J1, Jc h2, grd_true, grd_true, letv_eq, Y7d htx (by rw [Y2 htx]; exact h2)];exact Y2m hts hl hn ht hN f (q + 1) x (by omega) hq hx
     ·rw [J5 h2, Jq, J3, Jm h2];exact ⟨x, rfl, fun z hz => by cases hz⟩
    ·rw [J5 h1, J1, Jm h1, grd_true, letv_eq];exact Y2m hts hl hn ht hN f (q + 1) (x.set t ws[q]) (by omega) hq (by rw [J2j]; exact hx)
  ·have : q = ts.length := by omega
   subst this;simp only [zS, J10, J1h, uni];exact ⟨x, rfl, fun z hz => by cases hz; rfl⟩
theorem Y2n {N n : Nat} {ts ws : List Int} (hts : ts.length <= 3) (hl : ts.length = ws.length) (hn : n <= 4) (ht : termsOk n ts = true) (hN : 1048576 < N) : ∀ (f q : Nat) (x : List Int), ts.length - q < f -> q <= ts.length -> x.length = n -> ∃ y, Z8u N f ws x ts (ts.length : Int) (q : Int) = some (y, (uni (ts.drop q) (ws.drop q) x).isSome) /\ ∀ z, uni (ts.drop q) (ws.drop q) x = some z -> y = z
 | 0, q, x, hf, _, _ => by omega
 | f + 1, q, x, hf, hq', hx => by
  simp only [Z8u, Z0as];by_cases hq : q < ts.length
  ·have e1 : (q : Int) < (ts.length : Int) := by omega
   have hqw : q < ws.length := by omega
   have hb := of_decide_eq_true (Jh.1 ht _ (J4 hq));rw [Jb hq, Jb hqw];simp only [zS, e1, Y1 hq, Y4 hq, Y1 hqw, Y4 hqw, Y0 (j := q), uni, bneI, Z5x, Z4n];by_cases h0 : ts[q] < 0
   ·rw [J5 (show ¬ ts[q] >= 0 by omega), Jq, J3, Jc h0, Y5];by_cases h1 : -1 - ts[q] = ws[q]
    ·rw [J2 h1, J9, J1, Jc h1];exact Y2n hts hl hn ht hN f (q + 1) x (by omega) hq hx
    ·rw [J5 h1, Jq, J3, Jm h1];exact ⟨[], rfl, fun z hz => by cases hz⟩
   ·obtain ⟨t, e⟩ : ∃ t : Nat, ts[q] = (t : Int) := ⟨ts[q].toNat, by omega⟩;have htx : t < x.length := by omega
    rw [J2 (show ts[q] >= 0 by omega), J9, J1, Jm h0, e, Y1 htx, grd_true, Jl, Y4 htx, Y2 htx];by_cases h1 : x[t] >= 0
    ·rw [J5 (show ¬ x[t] < 0 by omega), J1, Jc h1, grd_true];by_cases h2 : x[t] = ws[q]
     ·rw [J2 h2, J9, J1, Jc h2];exact Y2n hts hl hn ht hN f (q + 1) x (by omega) hq hx
     ·rw [J5 h2, Jq, J3, Jm h2];exact ⟨[], rfl, fun z hz => by cases hz⟩
    ·rw [J2 (show x[t] < 0 by omega), J3, Jm h1, grd_true, grd_true, letv_eq];exact Y2n hts hl hn ht hN f (q + 1) (x.set t ws[q]) (by omega) hq (by rw [J2j]; exact hx)
  ·have : q = ts.length := by omega
   subst this;simp only [zS, J10, J1h, uni];exact ⟨x, rfl, fun z hz => by cases hz; rfl⟩
def meetA (a : Atm) (f : Fact) (x : List Int) : Option (List Int) := if f.1 = a.1 then uni a.2 f.2 x else none
def emb (d : Db) (as : List Atm) : Nat -> Nat -> List Int -> List Int -> List (List Int × List Int)
 | 0, _, x, fs => [(x, fs)]
 | m + 1, k, x, fs => (List.range d.2.length).flatMap fun i => match meetA (atomAt as k) (factAt d i) x with
  | some y => emb d as m (k + 1) y (fs ++ [(i : Int)])
  | none => []
theorem Y1p {d : Db} {as : List Atm} (hf : d.2.length <= 14) : ∀ (m k : Nat) (x fs : List Int), (emb d as m k x fs).length <= 14 ^ m
 | 0, k, x, fs => by simp [emb]
 | m + 1, k, x, fs => by
  have := Yi (n := 14 ^ m) (a := List.range d.2.length) (piece := fun i => match meetA (atomAt as k) (factAt d i) x with
   | some y => emb d as m (k + 1) y (fs ++ [(i : Int)])
   | none => []) fun i _ => by
    split
    ·exact Y1p hf m _ _ _
    ·simp
  rw [Jr] at this;show (List.flatMap _ _).length <= _;rw [Nat.pow_succ, Nat.mul_comm];exact Jj this (J29 _ hf)
structure QOk (d : Db) (n : Nat) (as : List Atm) : Prop where
 few : d.2.length <= 14
 n4 : n <= 4
 as3 : as.length <= 3
 terms : ∀ k, k < as.length -> termsOk n (atomAt as k).2 = true /\ (atomAt as k).2.length <= 3
 len : ∀ k i, k < as.length -> i < d.2.length -> (factAt d i).1 = (atomAt as k).1 -> (atomAt as k).2.length = (factAt d i).2.length
theorem qOk {d : Db} {q : Qry} (h : queryFor d q = true) : QOk d q.1.toNat q.2.1 := by
 unfold queryFor validQ at h;simp only [J8, J6] at h;obtain ⟨hvb, hvr, hn, ha, hok, _, _⟩ := h;have hv := Y6 hvb;have hat : ∀ k, k < q.2.1.length -> atomOk d.1 q.1.toNat q.2.1 k = true := of_decide_eq_true hok;refine ⟨hv.few, by omega, by omega, fun k hk => ?_, fun k i hk hi he => ?_⟩
 ·have h1 := hat k hk;unfold atomOk at h1;simp only [J8, J6] at h1;have h2 := Y2v hvr h1.1;exact ⟨h1.2.2.2, by omega⟩
 ·have h1 := hat k hk;unfold atomOk at h1;simp only [J8, J6] at h1;have h2 := (Yg hv.rels (hv.fact i hi)).len;rw [he] at h2;have : ((atomAt q.2.1 k).2.length : Int) = ((factAt d i).2.length : Int) := h1.2.1.trans h2.symm;omega
theorem Y7e {N n : Nat} {d : Db} {as : List Atm} (h : QOk d n as) (hN : 1048576 < N) {k i : Nat} (hk : k < as.length) (hi : i < d.2.length) {x : List Int} (hx : x.length = n) : ∃ y, Z6n N (atomAt as k) (factAt d i) x = some (y, (meetA (atomAt as k) (factAt d i) x).isSome) /\ ∀ z, meetA (atomAt as k) (factAt d i) x = some z -> y = z := by
 have hn := h.n4;obtain ⟨t1, t2⟩ := h.terms k hk;unfold Z6n Z0b5 meetA;rw [Y3, grd_true, bneI];by_cases e : (factAt d i).1 = (atomAt as k).1
 ·have hl := h.len k i hk hi e;have h0 : (((factAt d i).2.length : Int) != ((atomAt as k).2.length : Int)) = false := by simp [hl]
  rw [J2 e, J9, J1, h0, J1, Jc e];have := Y2m (N := N) (n := n) (a2 := (atomAt as k).1) (f2 := (factAt d i).1) t2 hl hn t1 hN N 0 x (by omega) (by omega) hx;simpa using this
 ·rw [J5 e, Jq, J3, Jm e];exact ⟨x, rfl, fun z hz => by cases hz⟩
theorem p14 {m : Nat} (h : m <= 3) : 14 ^ m <= 2744 := Jj (J1e (by decide) h) (by decide)
theorem Y4m {a : Atm} {f : Fact} {x y : List Int} (h : meetA a f x = some y) : y.length = x.length := by
 unfold meetA at h;split at h
 ·exact Y2l h
 ·cases h
theorem Y7f {d : Db} {as : List Atm} (hf : d.2.length <= 14) (m k : Nat) (x fs : List Int) (j : Nat) (hj : j <= d.2.length) : ((List.range j).flatMap fun i => match meetA (atomAt as k) (factAt d i) x with
  | some y => emb d as m (k + 1) y (fs ++ [(i : Int)])
  | none => []).length <= 14 * 14 ^ m := by
 have := Yi (n := 14 ^ m) (a := List.range j) (piece := fun i => match meetA (atomAt as k) (factAt d i) x with
  | some y => emb d as m (k + 1) y (fs ++ [(i : Int)])
  | none => []) fun i _ => by
   split
   ·exact Y1p hf m _ _ _
   ·simp
 rw [Jr] at this;exact Jj this (J29 _ (by omega))
theorem Y5g {N n : Nat} {d : Db} {q : Qry} (h : QOk d n q.2.1) (hN : 1048576 < N) : ∀ (m f k : Nat) (x fs : List Int), m < f -> k + m = q.2.1.length -> x.length = n -> fs.length = k -> Z3h N f d q k x fs = some (emb d q.2.1 m k x fs)
 | _, 0, _, _, _, hf, _, _, _ => by omega
 | 0, f + 1, k, x, fs, hf, hk, hx, hfs => by
  have h3 := h.as3;have hn := h.n4;obtain rfl : k = q.2.1.length := by omega
  simp only [zS, Z3h, Z9q, beqI, emb];rw [Y3, Y3];rfl
 | m + 1, f + 1, k, x, fs, hf, hk, hx, hfs => by
  have h3 := h.as3;have hn := h.n4;have hd := h.few;have hne : ¬ (k : Int) = (q.2.1.length : Int) := by omega
  have hkl : k < q.2.1.length := by omega
  have hp := p14 (m := m) (by omega);simp only [Z3h, Z9q, beqI, J5 hne, J1];have := loop (fun t (j : Nat) => Z7c N (Z3h N f) t (k : Int) x fs d.1 d.2 q.1 q.2.1 q.2.2 ((List.range j).flatMap fun i => match meetA (atomAt q.2.1 k) (factAt d i) x with
    | some y => emb d q.2.1 m (k + 1) y (fs ++ [(i : Int)])
    | none => []) (j : Int)) (fun j => j <= d.2.length) (fun j => d.2.length - j) (fun o => o = some (emb d q.2.1 (m + 1) k x fs)) (fun t j hj' => by
   simp only [Z7c, Z0a1];by_cases hj : j < d.2.length
   ·right;refine ⟨j + 1, hj, by omega, ?_⟩;have e1 : (j : Int) < (d.2.length : Int) := by omega
    have ho := Y7f (as := q.2.1) hd m k x fs j (by omega);obtain ⟨y, c1, c2⟩ := Y7e h hN hkl hj hx;have ea : at_ (0, []) q.2.1 (k : Int) = atomAt q.2.1 k := by rw [Y4 hkl]; exact (Y2 hkl).symm
    have ef : at_ (0, []) d.2 (j : Int) = factAt d j := Yb hj;simp only [zS, e1, Y1 hkl, Y1 hj, ea, ef, c1, Y0 (j := j), Y0 (j := k)];rw [J1i, List.flatMap_append];cases hm : meetA (atomAt q.2.1 k) (factAt d j) x with
    | none =>
     simp only [Option.isSome_none, J1, J16, J1n, hm, Jf]
    | some z =>
     obtain rfl := c2 z hm;have hl := Y1p (as := q.2.1) hd m (k + 1) y (fs ++ [(j : Int)]);simp only [Option.isSome_some, J3, J16, J1n, hm, Jf];rw [Y3, grd_true, Y3, grd_true, Y5g h hN m f (k + 1) y (fs ++ [(j : Int)]) (by omega) (by omega) ((Y4m hm).trans hx) (by simp; omega), J0, Y3, grd_true]
   ·left;have : j = d.2.length := by omega
    subst this;simp only [zS, J10];rfl) N 0 (by omega) (by omega)
  exact this
theorem Y7g {N n : Nat} {d : Db} {as : List Atm} (h : QOk d n as) (hN : 1048576 < N) {k i : Nat} (hk : k < as.length) (hi : i < d.2.length) (e : (factAt d i).1 = (atomAt as k).1) {x : List Int} (hx : x.length = n) : ∃ y, Z8k N x (atomAt as k).2 (factAt d i).2 = some (y, (meetA (atomAt as k) (factAt d i) x).isSome) /\ ∀ z, meetA (atomAt as k) (factAt d i) x = some z -> y = z := by
 have hn := h.n4;obtain ⟨t1, t2⟩ := h.terms k hk;have hl := h.len k i hk hi e;unfold Z8k Z0bx meetA;rw [Y17 (by omega), J0, Jc e];have := Y2n (N := N) (n := n) t2 hl hn t1 hN N 0 x (by omega) (by omega) hx;simpa using this
theorem Y5h {N n : Nat} {d : Db} {q : Qry} (h : QOk d n q.2.1) (hN : 1048576 < N) : ∀ (m f k : Nat) (x fs : List Int) (out : List (List Int × List Int)), m < f -> k + m = q.2.1.length -> x.length = n -> fs.length = k -> out.length + 14 ^ m <= 100000 -> Z0u N f x fs q out d q d = some (out ++ emb d q.2.1 m k x fs)
 | _, 0, _, _, _, _, hf, _, _, _, _ => by omega
 | 0, f + 1, k, x, fs, out, hf, hk, hx, hfs, ho => by
  have h3 := h.as3;have hn := h.n4;have e : (fs.length : Int) = (q.2.1.length : Int) := by omega
  simp only [zS, Z0u, Z4i, beqI, J2 e, Y17 (N := N) (s := x) (by omega), Y17 (N := N) (s := fs) (by omega), emb];rw [Y3];rfl
 | m + 1, f + 1, k, x, fs, out, hf, hk, hx, hfs, ho => by
  have h3 := h.as3;have hn := h.n4;have hd := h.few;have hne : ¬ (fs.length : Int) = (q.2.1.length : Int) := by omega
  have hkl : k < q.2.1.length := by omega
  have hfl : fs.length < q.2.1.length := by omega
  have hp := p14 (m := m) (by omega);have ea : at_ (0, []) q.2.1 (fs.length : Int) = atomAt q.2.1 k := by rw [Y4 hfl, hfs.symm]; exact (Y2 hfl).symm
  rw [Nat.pow_succ] at ho;simp only [zS, Z0u, Z4i, beqI, J5 hne, Y1 hfl, ea];have := loop (fun t (j : Nat) => Z30 N (Z0u N f) t x fs (out ++ (List.range j).flatMap fun i => match meetA (atomAt q.2.1 k) (factAt d i) x with
    | some y => emb d q.2.1 m (k + 1) y (fs ++ [(i : Int)])
    | none => []) q d (atomAt q.2.1 k).1 (atomAt q.2.1 k).2 d.2 (d.2.length : Int) (j : Int)) (fun j => j <= d.2.length) (fun j => d.2.length - j) (fun o => o = some (out ++ emb d q.2.1 (m + 1) k x fs)) (fun t j hj' => by
   simp only [Z30, Z5p];by_cases hj : j < d.2.length
   ·right;refine ⟨j + 1, hj, by omega, ?_⟩;have e1 : (j : Int) < (d.2.length : Int) := by omega
    have hm14 : ∀ j, j <= 13 -> j < d.2.length -> ((List.range j).flatMap fun i => match meetA (atomAt q.2.1 k) (factAt d i) x with
      | some y => emb d q.2.1 m (k + 1) y (fs ++ [(i : Int)])
      | none => []).length <= 13 * 14 ^ m := fun j hj13 _ => by
     have := Yi (n := 14 ^ m) (a := List.range j) (piece := fun i => match meetA (atomAt q.2.1 k) (factAt d i) x with
      | some y => emb d q.2.1 m (k + 1) y (fs ++ [(i : Int)])
      | none => []) fun i _ => by
       split
       ·exact Y1p hd m _ _ _
       ·simp
     rw [Jr] at this;exact Jj this (J29 _ hj13)
    have hlen := hm14 j (by omega) hj;have ef : at_ (0, []) d.2 (j : Int) = factAt d j := Yb hj;simp only [zS, e1, Y1 hj, ef, bneI, Y0 (j := j)];rw [J1i, List.flatMap_append];by_cases e : (factAt d j).1 = (atomAt q.2.1 k).1
    ·obtain ⟨y, c1, c2⟩ := Y7g h hN hkl hj e hx;rw [J2 e, J9, J1, c1, J0];cases hm : meetA (atomAt q.2.1 k) (factAt d j) x with
     | none =>
      simp only [Option.isSome_none, J1, J16, J1n, hm, Jf]
     | some z =>
      obtain rfl := c2 z hm;simp only [zS, Option.isSome_some, J16, J1n, hm, Jf, Y17 (N := N) (s := fs) (by omega)];rw [Y3, grd_true, Y5h h hN m f (k + 1) y (fs ++ [(j : Int)]) _ (by omega) (by omega) ((Y4m hm).trans hx) (by simp; omega) (by rw [Jz]; omega), J0, J18]
    ·have hm : meetA (atomAt q.2.1 k) (factAt d j) x = none := by unfold meetA; rw [Jm e]
     rw [J5 e, Jq, J3];simp only [J16, J1n, hm, Jf]
   ·left;have : j = d.2.length := by omega
    subst this;simp only [zS, J10];rfl) N 0 (by omega) (by omega)
  simpa using this
theorem Y7h {N n : Nat} (hn : n <= 4) (hN : 1048576 < N) : Z5r N (n : Int) = some (List.replicate n (-1)) := by
 unfold Z5r Z0b4;have := loop (fun k (j : Nat) => Z7a N k (n : Int) (List.replicate j (-1))) (fun j => j <= n) (fun j => n - j) (fun o => o = some (List.replicate n (-1))) (fun k j hj' => by
  simp only [Z7a, Z9z, J25];by_cases hj : j < n
  ·right;refine ⟨j + 1, hj, by omega, ?_⟩;have e1 : (j : Int) < (n : Int) := by omega
   rw [J2 e1, J3, Y3 (by omega) (by simp only [J25, J11]; omega), grd_true, List.replicate_succ']
  ·left;have : j = n := by omega
   subst this;simp only [zS, J10]) N 0 (by omega) (by omega)
 exact this
theorem Y7i {N n : Nat} (hn : n <= 4) : Z5o N (n : Int) = some (List.replicate n (-1)) := by
 unfold Z5o Z7f;have e : (decide (([-1] : List Int).length = 1) && (decide ((0 : Int) <= (n : Int)) && decide ((n : Int) * 8 <= 140737488355328))) = true := by
  rw [J8, J8, J6, J6, J6];exact ⟨rfl, by omega, by omega⟩
 rw [e, grd_true, Jl];rfl
def embs (d : Db) (q : Qry) : List (List Int × List Int) := if queryFor d q then emb d q.2.1 q.2.1.length 0 (List.replicate q.1.toNat (-1)) [] else []
theorem Y4n {d : Db} {q : Qry} (h : SmallDb d) (hq : q.2.2.length <= 1048576) (hN : 1048576 < N) : Z1j N d q = some (embs d q) := by
 unfold Z1j embs;rw [Ye h hq hN, J0];cases hf : queryFor d q with
 | false => rfl
 | true =>
  have ho := qOk hf;have hn := ho.n4;have h3 := ho.as3;have hq0 : 0 <= q.1 := by
   unfold queryFor validQ at hf;simp only [J8, J6] at hf;exact hf.2.2.1.1
  have e : Z5r N q.1 = some (List.replicate q.1.toNat (-1)) := by
   have := Y7h (N := N) hn hN
   rwa [show ((q.1.toNat : Nat) : Int) = q.1 by omega] at this
  rw [J9, J1, e, J0, Jc rfl];have := Y5g ho hN q.2.1.length N 0 (List.replicate q.1.toNat (-1)) [] (by omega) (by omega) (by simp) rfl;rw [show ((0 : Nat) : Int) = 0 from rfl] at this;unfold Z89;rw [this];rfl
theorem Y7j {d : Db} {q : Qry} (h : SmallDb d) (hq : q.2.2.length <= 1048576) (hN : 1048576 < N) : Z2x N d q = some (embs d q) := by
 unfold Z2x embs;rw [Yj h hq hN, J0];cases hf : queryFor d q with
 | false => rfl
 | true =>
  have ho := qOk hf;have hn := ho.n4;have h3 := ho.as3;have hq0 : 0 <= q.1 := by
   unfold queryFor validQ at hf;simp only [J8, J6] at hf;exact hf.2.2.1.1
  have e : Z5o N q.1 = some (List.replicate q.1.toNat (-1)) := by
   have := Y7i (N := N) hn
   rwa [show ((q.1.toNat : Nat) : Int) = q.1 by omega] at this
  have hp := p14 h3;rw [J9, J1, e, J0, Jc rfl];have := Y5h ho hN q.2.1.length N 0 (List.replicate q.1.toNat (-1)) [] [] (by omega) (by omega) (by simp) rfl (by simp only [J1t]; omega);unfold Z2w;rw [this];rfl
theorem Y7k {d : Db} (h : SmallDb d) (hf : d.2.length <= 14) (hN : 1048576 < N) : Z3o N d = some d := by
 have hr := h.rels;unfold Z3o Z91;rw [Y3, grd_true];have := loop (fun k (s : Nat) => Z4h N k [] [] d.1 (d.2.take s) d.2 (d.2.length : Int) (s : Int)) (fun s => s <= d.2.length) (fun s => d.2.length - s) (fun o => o = some d) (fun k j hs => by
  simp only [Z4h, Z7r];by_cases hj : j < d.2.length
  ·right;refine ⟨j + 1, hj, by omega, ?_⟩;have h1 : (j : Int) < (d.2.length : Int) := by omega
   have h3 := h.vals _ (J4 hj);simp only [zS, h1, Y1 hj, Y4 hj];rw [Y3, grd_true, Y3, grd_true, Y0, J7 hj]
  ·left;have h1 : ¬ (j : Int) < (d.2.length : Int) := by omega
   simp only [zS, h1];rw [Js (by omega)]) N 0 (by omega) (by omega)
 simpa using this
theorem Y4o {N : Nat} {d : Db} {l : List Int} (hin : ∀ x ∈ l, 0 <= x /\ x < (d.2.length : Int)) (hl : l.length <= 14) : ∀ (f j : Nat), l.length - j < f -> j <= l.length -> Z4y N f [] [] d.1 d.2 d.1 ((l.take j).map fun x => factAt d x.toNat) l (l.length : Int) (j : Int) = some (subDb d l, true)
 | 0, j, hf, _ => by omega
 | f + 1, j, hf, hj' => by
  simp only [Z4y, Z87];by_cases hj : j < l.length
  ·have h1 : (j : Int) < (l.length : Int) := by omega
   have h2 := hin _ (J4 hj);have h3 : (l[j]).toNat < d.2.length := by omega
   have e : at_ (0, []) d.2 l[j] = factAt d (l[j]).toNat := by
    have := Yb h3
    rwa [show (((l[j]).toNat : Nat) : Int) = l[j] by omega] at this
   simp only [zS, h1, Y1 hj, Y4 hj, Y9 h2.1 h2.2, e];rw [Y3, grd_true, Y0];have := Y4o (N := N) hin hl f (j + 1) (by omega) hj;rw [J7 hj, Jy] at this;exact this
  ·have : j = l.length := by omega
   subst this;simp only [zS, J10, J19];rfl
theorem Y4p {d : Db} {l : List Int} (h : SmallDb d) (hvb : validDb d = true) (hs : l.Pairwise (· < ·)) (hin : ∀ x ∈ l, 0 <= x /\ x < (d.2.length : Int)) (hl : l.length <= 14) (hN : 1048576 < N) : Z44 N d l = some (subDb d l, true) := by
 have hf := (Y6 hvb).few;unfold Z44 Z9m;rw [Y24 h hN, J0, hvb, J9, J1, Y3e h.facts (by omega) hN, J0, Y1k hs hin, J9, J1, Y7k h hf hN, J0];obtain ⟨M, rfl⟩ : ∃ M, N = M + 1 := ⟨N - 1, by omega⟩;simp only [Z6t, Z88];by_cases h0 : (0 : Int) < (l.length : Int)
 ·have hj : 0 < l.length := by omega
  have h2 := hin _ (J4 hj);have h3 : (l[0]).toNat < d.2.length := by omega
  have e : at_ (0, []) d.2 l[0] = factAt d (l[0]).toNat := by
   have := Yb h3
   rwa [show (((l[0]).toNat : Nat) : Int) = l[0] by omega] at this
  have e0 : at_ 0 l 0 = l[0] := Y4 (j := 0) hj;have i0 : inb 0 l = true := Y1 (j := 0) hj;simp only [zS, J2 h0, i0, e0, Y9 h2.1 h2.2, e];rw [Y3, grd_true];have := Y4o (N := M + 1) (d := d) hin hl M 1 (by omega) hj;rw [show w64 ((0 : Int) + 1) = ((1 : Nat) : Int) from Y0 (j := 0)];have t1 : l.take 1 = [l[0]] := by
   rw [show 1 = 0 + 1 from rfl, J7 hj];simp
  rw [t1] at this;exact this
 ·have : l = [] := List.length_eq_zero_iff.1 (by omega);subst this;rfl
theorem Y2f {d : Db} {l : List Int} (h : SmallDb d) (hin : ∀ x ∈ l, 0 <= x /\ x < (d.2.length : Int)) (hl : l.length <= 14) : SmallDb (subDb d l) := ⟨h.rels, by simp [subDb]; omega, fun f hf => by
  obtain ⟨x, hx, rfl⟩ := Jg.1 hf;have := hin x hx;exact Y14 h (by omega)⟩
theorem Y3r {d : Db} {l : List Int} {q : Qry} (h : SmallDb d) (hvb : validDb d = true) (hs : l.Pairwise (· < ·)) (hin : ∀ x ∈ l, 0 <= x /\ x < (d.2.length : Int)) (hl : l.length <= 14) (hq : q.2.2.length <= 1048576) (hN : 1048576 < N) : Z28 N d l q = some (decide (((embs (subDb d l) q).length : Int) > 0)) := by
 unfold Z28;rw [Y4p h hvb hs hin hl hN, J0];simp only [J3];rw [Y7j (Y2f h hin hl) hq hN, J0]
def putIn (l : List Int) (x : Int) : Nat -> List Int
 | 0 => x :: l
 | k + 1 => if l.getD k 0 > x then putIn l x k else l.take (k + 1) ++ x :: l.drop (k + 1)
theorem Yy (l : List Int) (x : Int) : ∀ k, k <= l.length -> ∃ j, j <= k /\ putIn l x k = l.take j ++ x :: l.drop j /\ (∀ i (hi : i < l.length), j <= i -> i < k -> l[i] > x) /\ (0 < j -> ∃ (hj : j - 1 < l.length), ¬ l[j - 1] > x)
 | 0, _ => ⟨0, J1b _, by simp [putIn], fun i hi h1 h2 => by omega, fun h => by omega⟩
 | k + 1, hk => by
  have hk' : k < l.length := by omega
  simp only [putIn, Y2 hk'];by_cases h : l[k] > x
  ·rw [Jc h];obtain ⟨j, h1, h2, h3, h4⟩ := Yy l x k (by omega);refine ⟨j, by omega, h2, fun i hi g1 g2 => ?_, h4⟩;by_cases e : i = k
   ·subst e; exact h
   ·exact h3 i hi g1 (by omega)
  ·rw [Jm h];exact ⟨k + 1, J1b _, rfl, fun i hi g1 g2 => by omega, fun _ => ⟨by omega, by simpa using h⟩⟩
theorem Y3s {l : List Int} {x y : Int} : y ∈ putIn l x l.length ↔ y = x \/ y ∈ l := by
 obtain ⟨j, _, e, _, _⟩ := Yy l x l.length (J1b _);rw [e, Jx, Je];have hl : y ∈ l ↔ y ∈ l.take j \/ y ∈ l.drop j := by
  conv => lhs; rw [<- J26 j l]
  rw [Jx]
 rw [hl];constructor
 ·rintro (h | h | h)
  ·exact .inr (.inl h)
  ·exact .inl h
  ·exact .inr (.inr h)
 ·rintro (h | h | h)
  ·exact .inr (.inl h)
  ·exact .inl h
  ·exact .inr (.inr h)
theorem Y3t {l : List Int} {x : Int} : (putIn l x l.length).length = l.length + 1 := by
 obtain ⟨j, hj, e, _, _⟩ := Yy l x l.length (J1b _);rw [e];simp only [Jz, Jn, J2h, List.length_drop];omega
def sortI : List Int -> List Int -> List Int
 | [], out => out
 | x :: l, out => sortI l (putIn out x out.length)
theorem Y3u {N k : Nat} {l out : List Int} {s : Nat} (hs : s < l.length) (hl : l.length <= 1000) (ho : out.length <= 1000) : ∀ (f t : Nat), t < f -> t <= out.length -> Z2r (Z0x N k) N f l out (s : Int) (t : Int) = Z0x N k l (putIn out l[s] t) ((s + 1 : Nat) : Int)
 | 0, t, hf, _ => by omega
 | f + 1, 0, hf, ht => by
  have h2 : ¬ ((0 : Nat) : Int) > 0 := by omega
  simp only [zS, Z2r, Z47, h2, Jl, Y1 hs, Y4 hs];rw [show subOk 0 ((0 : Nat) : Int) out.length = true by simp [subOk], grd_true, Y3, grd_true, Y3, grd_true, show subOk ((0 : Nat) : Int) (out.length : Int) out.length = true by simp [subOk], grd_true, Y3, grd_true, Y0];simp [putIn]
 | f + 1, t + 1, hf, ht => by
  have h2 : ((t + 1 : Nat) : Int) > 0 := by omega
  have h3 : t < out.length := ht;have e1 : w64 (((t + 1 : Nat) : Int) - 1) = (t : Int) := by rw [Y5]; omega
  simp only [zS, Z2r, Z47, h2, e1, Y1 h3, Y4 h3, Y1 hs, Y4 hs, putIn, Y2 h3, Jl];by_cases h : out[t] > l[s]
  ·rw [J2 h, J3, Jc h];exact Y3u hs hl ho f t (by omega) (by omega)
  ·rw [J5 h, J1, Jm h];rw [show subOk 0 ((t + 1 : Nat) : Int) out.length = true by simp [subOk]; omega, grd_true, Y3, grd_true, Y3, grd_true, show subOk ((t + 1 : Nat) : Int) (out.length : Int) out.length = true by simp [subOk]; omega, grd_true, Y3, grd_true, Y0];simp
theorem Y3v : ∀ (l out : List Int), (sortI l out).length = l.length + out.length
 | [], out => by simp [sortI]
 | x :: l, out => by rw [sortI, Y3v l, Y3t]; simp; omega
theorem Y1f {y : Int} : ∀ (l out : List Int), y ∈ sortI l out ↔ y ∈ l \/ y ∈ out
 | [], out => by simp [sortI]
 | x :: l, out => by rw [sortI, Y1f l, Y3s, Je, or_left_comm, or_assoc]
theorem Y3w {N : Nat} {l : List Int} (hl : l.length <= 900) (hN : 1048576 < N) : ∀ (f s : Nat) (out : List Int), l.length - s < f -> s <= l.length -> out.length = s -> Z0x N f l out (s : Int) = some (sortI (l.drop s) out)
 | 0, s, out, hf, _, _ => by omega
 | f + 1, s, out, hf, hs, ho => by
  simp only [Z0x, Z5s];by_cases h : s < l.length
  ·have h1 : (s : Int) < (l.length : Int) := by omega
   rw [J2 h1, J3, Y3u h (by omega) (by omega) N out.length (by omega) (J1b _), Y3w hl hN f (s + 1) _ (by omega) h (by rw [Y3t, ho]), Jb h, sortI]
  ·have h1 : ¬ (s : Int) < (l.length : Int) := by omega
   rw [J5 h1, J1, List.drop_eq_nil_of_le (by omega), sortI]
theorem Y7l {l : List Int} (hl : l.length <= 900) (hN : 1048576 < N) : Z21 N l = some (sortI l []) := by
 have := Y3w hl hN N 0 [] (by omega) (by omega) rfl;simpa [Z21, Z9a] using this
theorem Y4q {l : List Int} {x : Int} (hs : l.Pairwise (· < ·)) (hx : x ∉ l) : (putIn l x l.length).Pairwise (· < ·) := by
 obtain ⟨j, hj, e, h3, h4⟩ := Yy l x l.length (J1b _);rw [e];have hsplit : (l.take j ++ l.drop j).Pairwise (· < ·) := by rwa [J26]
 rw [List.pairwise_append] at hsplit;rw [List.pairwise_append, Jw];have hlt : ∀ a ∈ l.take j, a < x := by
  intro a ha;obtain ⟨i, hi, rfl⟩ := Jd.1 ha;have hi' : i < j := by simp at hi; omega
  obtain ⟨hj', hle⟩ := h4 (by omega);rw [J20];have hne : l[j - 1] ≠ x := fun e => hx (e ▸ J4 hj');have hi2 : i < l.length := by omega
  have : l[i] <= l[j - 1] := by
   by_cases h : i = j - 1
   ·subst h; exact J1q _
   ·have := Jk.1 hs i (j - 1) hi2 hj' (by omega);omega
  omega
 have hgt : ∀ a ∈ l.drop j, x < a := by
  intro a ha;obtain ⟨i, hi, rfl⟩ := Jd.1 ha;rw [List.getElem_drop];have hi2 : j + i < l.length := by simp at hi; omega
  exact h3 (j + i) hi2 (by omega) hi2
 refine ⟨hsplit.1, ⟨hgt, hsplit.2.1⟩, fun a ha b hb => ?_⟩;rcases Je.1 hb with rfl | hb
 ·exact hlt a ha
 ·exact hsplit.2.2 a ha b hb
theorem Y2g : ∀ (l out : List Int), l.Nodup -> (∀ x ∈ l, x ∉ out) -> out.Pairwise (· < ·) -> (sortI l out).Pairwise (· < ·)
 | [], out, _, _, hs => hs
 | x :: l, out, hn, hd, hs => by
  rw [List.nodup_cons] at hn;refine Y2g l _ hn.2 (fun y hy h => ?_) (Y4q hs (hd x J2d));rcases Y3s.1 h with rfl | h
  ·exact hn.1 hy
  ·exact hd y (J2a _ hy) h
def chain (d : Db) (as : List Atm) : Nat -> List Int -> List Int -> Option (List Int)
 | _, x, [] => some x
 | k, x, g :: gs => match meetA (atomAt as k) (factAt d g.toNat) x with
  | some y => chain d as (k + 1) y gs
  | none => none
theorem Yv {d : Db} {as : List Atm} {e : List Int × List Int} : ∀ (m k : Nat) (x fs : List Int), e ∈ emb d as m k x fs ↔ ∃ gs : List Int, gs.length = m /\ (∀ g ∈ gs, 0 <= g /\ g < (d.2.length : Int)) /\ chain d as k x gs = some e.1 /\ e.2 = fs ++ gs
 | 0, k, x, fs => by
  simp only [emb, J1c];constructor
  ·rintro rfl
   exact ⟨[], rfl, by simp, rfl, by simp⟩
  ·rintro ⟨gs, h1, -, h3, h4⟩
   have : gs = [] := List.length_eq_zero_iff.1 h1;subst this;simp only [chain, J1m] at h3;obtain ⟨a, b⟩ := e;simp only [Jf] at h4;simp only at h3;rw [h3, h4]
 | m + 1, k, x, fs => by
  simp only [emb, J1a, Ji];constructor
  ·rintro ⟨i, hi, he⟩
   split at he
   ·rename_i y hy;obtain ⟨gs, h1, h2, h3, h4⟩ := (Yv m (k + 1) y (fs ++ [(i : Int)])).1 he;refine ⟨(i : Int) :: gs, by simp [h1], fun g hg => ?_, ?_, by rw [h4, J18]; rfl⟩
    ·rcases Je.1 hg with rfl | hg
     ·omega
     ·exact h2 g hg
    ·simp only [chain, Jl, hy];exact h3
   ·cases he
  ·rintro ⟨gs, h1, h2, h3, h4⟩
   match gs with
   | [] => simp at h1
   | g :: gs =>
    have hg := h2 g J2d;refine ⟨g.toNat, by omega, ?_⟩;simp only [chain] at h3;split at h3
    ·rename_i y hy
     try simp only [hy]
     refine (Yv m (k + 1) y _).2 ⟨gs, by simpa using h1, fun g' hg' => h2 g' (J2a _ hg'), h3, ?_⟩;rw [h4, J18, show ((g.toNat : Nat) : Int) = g by omega];rfl
    ·cases h3
theorem Y2h {d : Db} {as : List Atm} : ∀ (gs : List Int) (k : Nat) (x y : List Int), chain d as k x gs = some y -> ∀ j (h : j < gs.length), (factAt d (gs[j]).toNat).1 = (atomAt as (k + j)).1
 | [], k, x, y, _, j, h => by simp at h
 | g :: gs, k, x, y, hc, j, h => by
  simp only [chain] at hc;split at hc
  ·rename_i z hz;cases j with
   | zero =>
    unfold meetA at hz;split at hz
    ·rename_i e; exact e
    ·cases hz
   | succ j =>
    have := Y2h gs (k + 1) z y hc j (by simpa using h);rw [show k + (j + 1) = k + 1 + j by omega];exact this
  ·cases hc
theorem Y2i {d : Db} {as : List Atm} {s : List Int} : ∀ (gs : List Int) (k : Nat) (x : List Int), (∀ g ∈ gs, 0 <= g /\ g < (s.length : Int)) -> chain (subDb d s) as k x gs = chain d as k x (gs.map fun g => s.getD g.toNat 0)
 | [], k, x, _ => rfl
 | g :: gs, k, x, h => by
  have hg := h g J2d;have hj : g.toNat < s.length := by omega
  simp only [chain, J1p, Ys hj, Y2 hj];split
  ·exact Y2i gs _ _ fun g' hg' => h g' (J2a _ hg')
  ·rfl
theorem Y51 {d : Db} {q : Qry} (h : queryFor d q = true) {i j : Nat} (hi : i < j) (hj : j < q.2.1.length) : (atomAt q.2.1 i).1 ≠ (atomAt q.2.1 j).1 := by
 unfold queryFor validQ at h;simp only [J8, J6] at h;obtain ⟨_, _, _, _, hok, _, _⟩ := h;have h1 : atomOk d.1 q.1.toNat q.2.1 j = true := of_decide_eq_true hok j hj;unfold atomOk at h1;simp only [J8, J6] at h1;have h2 := h1.2.2.1;unfold newRel at h2;rw [J1z, J2f] at h2;intro e;refine h2 (atomAt q.2.1 i) ?_ (J2 e);have hi' : i < q.2.1.length := by omega
 unfold atomAt;rw [Y2 hi'];exact Jd.2 ⟨i, by simp; omega, by rw [J20]⟩
structure EmbOk (d : Db) (e : List Int × List Int) : Prop where
 few : e.2.length <= 3
 ins : ∀ x ∈ e.2, 0 <= x /\ x < (d.2.length : Int)
 apart : ∀ i j (hi : i < j) (hj : j < e.2.length), (factAt d (e.2[i]'(by omega)).toNat).1 ≠ (factAt d (e.2[j]).toNat).1
theorem Y4r {d : Db} {q : Qry} {e : List Int × List Int} (he : e ∈ embs d q) : queryFor d q = true /\ EmbOk d e := by
 unfold embs at he;split at he
 ·rename_i h;obtain ⟨gs, h1, h2, h3, h4⟩ := (Yv _ _ _ _).1 he;rw [J1k] at h4;have h5 := (qOk h).as3;obtain ⟨a, b⟩ := e;simp only at h4 h3;subst h4;refine ⟨h, ⟨by simp only; omega, h2, fun i j hi hj => ?_⟩⟩;simp only at hj;have r1 := Y2h b 0 _ _ h3 i (by omega);have r2 := Y2h b 0 _ _ h3 j hj;rw [Nat.zero_add] at r1 r2;simp only;rw [r1, r2];exact Y51 h hi (by omega)
 ·cases he
theorem EmbOk.nodup {d : Db} {e : List Int × List Int} (h : EmbOk d e) : e.2.Nodup := by
 rw [List.Nodup, Jk];intro i j hi hj hij he;exact h.apart i j hij hj (by rw [he])
theorem Y6t {d : Db} {q : Qry} {s : List Int} (hvb : validDb d = true) (hs : s.Pairwise (· < ·)) (hin : ∀ x ∈ s, 0 <= x /\ x < (d.2.length : Int)) (hl : s.length <= 14) : (embs (subDb d s) q).length > 0 ↔ ∃ e ∈ embs d q, ∀ x ∈ e.2, x ∈ s := by
 have hq : queryFor (subDb d s) q = queryFor d q := by
  unfold queryFor;rw [hvb, Y3m hvb hs hin hl];rfl
 have hlen : (subDb d s).2.length = s.length := by simp [subDb]
 unfold embs;rw [hq];by_cases h : queryFor d q = true
 ·rw [Jc h, Jc h];constructor
  ·intro hp;obtain ⟨e, he⟩ := List.exists_mem_of_length_pos hp;obtain ⟨gs, h1, h2, h3, h4⟩ := (Yv _ _ _ _).1 he;rw [hlen] at h2;rw [Y2i gs _ _ h2] at h3;have hm : ∀ g ∈ gs, s.getD g.toNat 0 ∈ s := fun g hg => by
    have := h2 g hg;rw [Y2 (show g.toNat < s.length by omega)];exact J4 _
   refine ⟨(e.1, gs.map fun g => s.getD g.toNat 0), (Yv _ _ _ _).2 ⟨gs.map fun g => s.getD g.toNat 0, by simpa using h1, fun g hg => ?_, h3, by simp⟩, fun x hx => ?_⟩
   ·obtain ⟨g', hg', rfl⟩ := Jg.1 hg;exact hin _ (hm g' hg')
   ·obtain ⟨g', hg', rfl⟩ := Jg.1 hx;exact hm g' hg'
  ·rintro ⟨e, he, hes⟩
   obtain ⟨gs, h1, h2, h3, h4⟩ := (Yv _ _ _ _).1 he;rw [J1k] at h4;rw [h4] at hes;have hidx : ∀ x, x ∈ s -> ∃ j, j < s.length /\ s.getD j 0 = x := fun x hx => by
    obtain ⟨j, hj, e⟩ := Jd.1 hx;exact ⟨j, hj, by rw [Y2 hj, e]⟩
   have hf : ∀ x ∈ gs, (s.idxOf x) < s.length /\ s.getD (s.idxOf x) 0 = x := fun x hx => by
    have := List.idxOf_lt_length_of_mem (hes x hx);exact ⟨this, by rw [Y2 this]; exact List.getElem_idxOf this⟩
   have hmap : (gs.map fun x => ((s.idxOf x : Nat) : Int)).map (fun g => s.getD g.toNat 0) = gs := by
    rw [List.map_map]
    conv => rhs; rw [<- List.map_id gs]
    exact J1r fun x hx => by simpa using (hf x hx).2
   have hr : ∀ g ∈ gs.map (fun x => ((s.idxOf x : Nat) : Int)), 0 <= g /\ g < (s.length : Int) := fun g hg => by
    obtain ⟨x, hx, rfl⟩ := Jg.1 hg;have := (hf x hx).1;omega
   refine List.length_pos_of_mem (a := (e.1, gs.map fun x => ((s.idxOf x : Nat) : Int))) ((Yv _ _ _ _).2 ⟨gs.map fun x => ((s.idxOf x : Nat) : Int), by simpa using h1, by rw [hlen]; exact hr, ?_, by simp⟩);rw [Y2i _ _ _ hr, hmap];exact h3
 ·rw [Jm h, Jm h];simp
def cov (d : Db) (q : Qry) (s : List Int) : Bool := (embs d q).any fun e => e.2.all fun x => decide (x ∈ s)
def need (d : Db) (q : Qry) : List (List Int) := (embs d q).map fun e => sortI e.2 []
theorem Y2j {d : Db} {q : Qry} {s : List Int} (hvb : validDb d = true) (hs : s.Pairwise (· < ·)) (hin : ∀ x ∈ s, 0 <= x /\ x < (d.2.length : Int)) (hl : s.length <= 14) : decide (((embs (subDb d s) q).length : Int) > 0) = cov d q s := by
 rw [J15, J6];unfold cov;simp only [J21, Jh, J6];rw [show (((embs (subDb d s) q).length : Int) > 0) ↔ (embs (subDb d s) q).length > 0 by omega, Y6t hvb hs hin hl]
theorem Y4s {d : Db} {q : Qry} : (embs d q).length <= 2744 := by
 unfold embs;split
 ·rename_i h;have ho := qOk h;exact Jj (Y1p ho.few _ _ _ _) (p14 ho.as3)
 ·simp
theorem Y5i {d : Db} {q : Qry} {e : List Int × List Int} (he : e ∈ embs d q) : (sortI e.2 []).Pairwise (· < ·) /\ (∀ x ∈ sortI e.2 [], 0 <= x /\ x < (d.2.length : Int)) /\ (sortI e.2 []).length <= 3 := by
 obtain ⟨h, ho⟩ := Y4r he;refine ⟨Y2g _ _ ho.nodup (by simp) List.Pairwise.nil, fun x hx => ?_, ?_⟩
 ·rw [Y1f] at hx;rcases hx with hx | hx
  ·exact ho.ins x hx
  ·cases hx
 ·have := ho.few;rw [Y3v]; simp; omega
theorem Y5s {d : Db} {e : List Int × List Int} (ho : EmbOk d e) : ∀ x ∈ sortI e.2 [], ∀ y ∈ sortI e.2 [], x ≠ y -> (factAt d x.toNat).1 ≠ (factAt d y.toNat).1 := by
 intro x hx y hy hxy;rw [Y1f] at hx hy;have hx := hx.resolve_right (by simp);have hy := hy.resolve_right (by simp);obtain ⟨i, hi, rfl⟩ := Jd.1 hx;obtain ⟨j, hj, rfl⟩ := Jd.1 hy;rcases Nat.lt_trichotomy i j with h | h | h
 ·exact ho.apart i j h hj
 ·subst h; exact absurd rfl hxy
 ·exact fun e => ho.apart j i h hi e.symm
theorem Y5t {d : Db} {q : Qry} {e : List Int × List Int} (h : SmallDb d) (he : e ∈ embs d q) (hN : 1048576 < N) : Z1v N d (sortI e.2 []) = some true := by
 obtain ⟨hq, ho⟩ := Y4r he;obtain ⟨l1, l2, l3⟩ := Y5i he;have hvb : validDb d = true := by unfold queryFor at hq; rw [J8] at hq; exact hq.1
 have hap := Y5s ho;generalize sortI e.2 [] = w at l1 l2 l3 hap;have hsub := Y3m hvb l1 l2 (by omega);have hsm := Y2f h l2 (by omega);have hlen : (subDb d w).2.length = w.length := by simp [subDb]
 have hst : (blocksOf (subDb d w)).length = w.length := by
  unfold blocksOf;rw [Jc hsub, Jp];unfold B;rw [Jp, hlen];unfold sts;rw [List.filter_eq_self.2, Jr];intro s hs;have hs := Ji.1 hs;rw [Yd];intro k hk;have hk' : k < w.length := by omega
  have h1 := Jk.1 l1 k s hk' hs hk;have := hap _ (J4 hs) _ (J4 hk') (by omega);unfold sameD sameK;rw [Ys hs, Ys hk', J5 this, J1f]
 unfold Z1v;rw [Y5e h hvb l1 l2 (by omega) hN, J0];simp only [J3];unfold Z4o;rw [Yf hsm hN, J0, hsub, J3, Y1u hsm hN, J0, hst, hlen];simp
theorem Y13 {d : Db} {q : Qry} (h : SmallDb d) (hq : q.2.2.length <= 1048576) (hN : 1048576 < N) : Z29 N d q = some (need d q) := by
 have hfew := Y4s (d := d) (q := q);unfold Z29 Z0aa;rw [Y4n h hq hN, J0];have := loop (fun k (s : Nat) => Z69 N k d.1 d.2 (((embs d q).take s).map fun e => sortI e.2 []) (embs d q) (s : Int)) (fun s => s <= (embs d q).length) (fun s => (embs d q).length - s) (fun o => o = some (need d q)) (fun k j hj' => by
  simp only [Z69, Z93];by_cases hj : j < (embs d q).length
  ·right;refine ⟨j + 1, hj, by omega, ?_⟩;have h1 : (j : Int) < ((embs d q).length : Int) := by omega
   have hm := J4 hj;have hfs := (Y4r hm).2.few;have hp : Z1v N (d.1, d.2) (sortI ((embs d q)[j]).2 []) = some true := Y5t h hm hN;simp only [zS, h1, Y1 hj, Y4 hj];rw [Y7l (by omega) hN, J0, hp, J0, J3, Y3, grd_true, Y0, J7 hj, Jy];rfl
  ·left;have h1 : ¬ (j : Int) < ((embs d q).length : Int) := by omega
   simp only [zS, h1];rw [Js (by omega)];rfl) N 0 (by omega) (by omega)
 exact this
theorem Y33 {N k : Nat} {l : List (List Int)} {s : List Int} (hs : s.length <= 1048576) (hN : 1048576 < N) {i : Nat} (hi : i < l.length) (hil : i <= 1048576) : ∀ (f t : Nat) (b : Bool), (l[i]).length - t < f -> t <= (l[i]).length -> (l[i]).length <= 1048576 -> Z8c (Z3i N k) N f l s (i : Int) b (t : Int) = if (b && ((l[i]).drop t).all fun x => decide (x ∈ s)) then some true else Z3i N k l s ((i + 1 : Nat) : Int)
 | 0, t, b, hf, _, _ => by omega
 | f + 1, t, b, hf, ht, hw => by
  simp only [Z8c, Z0ab, Y1 hi, Y4 hi, grd_true];by_cases h : t < (l[i]).length
  ·have h1 : (t : Int) < ((l[i]).length : Int) := by omega
   rw [J2 h1, J3, Y1 h, Y4 h, grd_true, Y0, Jb h, List.all_cons];cases b with
   | false =>
    rw [J1, Y33 hs hN hi hil f (t + 1) false (by omega) h hw];simp
   | true =>
    rw [J3, Y3f hs hN, J0, Y33 hs hN hi hil f (t + 1) _ (by omega) h hw];simp
  ·have h1 : ¬ (t : Int) < ((l[i]).length : Int) := by omega
   rw [J5 h1, J1, List.drop_eq_nil_of_le (by omega), Y0];cases b <;> simp
theorem Y52 {l : List (List Int)} {s : List Int} (hs : s.length <= 1048576) (hl : l.length <= 1048576) (hw : ∀ w ∈ l, w.length <= 1048575) (hN : 1048576 < N) : Z2a N l s = some (l.any fun w => w.all fun x => decide (x ∈ s)) := by
 unfold Z2a Z4d Z0bi;rw [Ya (n := l.length) (fun j => !((l.getD j []).all fun x => decide (x ∈ s))) (some true) (some false) (fun k i => Z3i N k l s i) (fun k => by simp [Z3i, Z8r]) (fun k j hj => ?_) (by omega)]
 ·by_cases h : (l.any fun w => w.all fun x => decide (x ∈ s)) = true
  ·rw [h, Jm, J0];intro h';obtain ⟨w, hw, hx⟩ := J21.1 h;obtain ⟨j, hj, rfl⟩ := Jd.1 hw;have := h' j hj;rw [Y2 hj, hx] at this;cases this
  ·rw [Bool.not_eq_true] at h;rw [h, Jc, J0];intro j hj;have := (J2f.1 h) _ (J4 hj);rw [Y2 hj];simpa using this
 ·have h1 : (j : Int) < (l.length : Int) := by omega
  have h2 := hw _ (J4 hj);simp only [zS, Z3i, Z8r, h1];have := Y33 (k := k) (l := l) hs hN hj (by omega) N 0 true (by omega) (by omega) (by omega);rw [J1v, Ja] at this;rw [show ((0 : Nat) : Int) = 0 from rfl] at this;rw [this, Y2 hj];cases (l[j].all fun x => decide (x ∈ s)) <;> simp
theorem Y3i {d : Db} {q : Qry} {s : List Int} (hs : s.length <= 1048576) (hN : 1048576 < N) : Z2a N (need d q) s = some (cov d q s) := by
 have hfew := Y4s (d := d) (q := q);rw [Y52 hs (by unfold need; rw [Jp]; omega) (fun w hw => by
  unfold need at hw;obtain ⟨e, he, rfl⟩ := Jg.1 hw;have := (Y5i he).2.2;omega) hN]
 unfold need cov;rw [List.any_map];congr 1;apply congrArg (fun p => List.any (embs d q) p);funext e;simp only [Function.comp];rw [J15];simp [Jh, Y1f]
theorem Y20 {d : Db} {l : List Con} {r : List Int} (hr : r ∈ subsets d l) : validDb d = true /\ r.Pairwise (· < ·) /\ (∀ x ∈ r, 0 <= x /\ x < (d.2.length : Int)) /\ r.length <= 14 := by
 have h14 := (Yc d l).2 r hr;have hso := Y3h d l r hr;unfold subsets at hr;by_cases hv : validDb d = true
 ·rw [Jc hv] at hr;unfold maxSets at hr;split at hr
  ·have := of_decide_eq_true (Y16 _ _ _ r hr);refine ⟨hv, hso, fun x hx => ?_, h14⟩;obtain ⟨j, hj, rfl⟩ := Jd.1 hx;have h1 := this j hj;rw [Y2 hj] at h1;simp only [J8, J6] at h1;omega
  ·simp at hr
 ·rw [Jm hv] at hr; simp at hr
def holdN (d : Db) (l : List Con) (q : Qry) : Nat := if queryFor d q then ((subsets d l).filter (cov d q)).length else 0
theorem Y2r {α : Type} {p : α -> Bool} {l : List α} {j : Nat} (hj : j < l.length) : ((l.take (j + 1)).filter p).length = ((l.take j).filter p).length + if p l[j] then 1 else 0 := by
 rw [J7 hj, J1j, Jz];congr 1;by_cases h : p l[j] <;> simp [h]
theorem Y5u {d : Db} {l : List Con} {q : Qry} (h : SmallDb d) (hl : l.length <= 1048576) (hq : q.2.2.length <= 1048576) (hN : 1048576 < N) : Z3q N d l q = some ((holdN d l q : Int), ((subsets d l).length : Int)) := by
 have hfew := (Yc d l).1;unfold Z3q Z95;rw [Y1j h hl hN, J0, Y13 h hq hN, J0];have hqf : Z0d N (d.1, d.2) (q.1, q.2.1, q.2.2) = some (queryFor d q) := Ye h hq hN;cases hv : queryFor d q with
 | false =>
  obtain ⟨M, rfl⟩ : ∃ M, N = M + 1 := ⟨N - 1, by omega⟩;unfold holdN;simp only [zS, Z3j, Z5f, hqf, hv, J2e, if_false];cases decide ((0 : Int) < ((subsets d l).length : Int)) <;> rfl
 | true =>
  unfold holdN;rw [hv, Jc rfl];have := loop (fun k (s : Nat) => Z3j N k d.1 d.2 q.1 q.2.1 q.2.2 ((((subsets d l).take s).filter (cov d q)).length : Int) (subsets d l) (need d q) (s : Int)) (fun s => s <= (subsets d l).length) (fun s => (subsets d l).length - s) (fun o => o = some ((((subsets d l).filter (cov d q)).length : Int), ((subsets d l).length : Int))) (fun k j hj' => by
   simp only [Z3j, Z5f];by_cases hj : j < (subsets d l).length
   ·right;refine ⟨j + 1, hj, by omega, ?_⟩;have h1 : (j : Int) < ((subsets d l).length : Int) := by omega
    have h14 := (Yc d l).2 _ (J4 hj);have hc : (((subsets d l).take j).filter (cov d q)).length <= 16384 := Jj (Jo _ _) (by rw [Jn]; omega);rw [J2 h1, J3, hqf, J0, hv, J3, Y1 hj, grd_true, Y4 hj, Y3i (by omega) hN, J0, Y0 (j := j), Y2r hj];cases hcv : cov d q (subsets d l)[j] with
    | true => rw [J3, Y0, Jc rfl]
    | false => simp only [J1, J2e, if_false, Nat.add_zero]
   ·left;have h1 : ¬ (j : Int) < ((subsets d l).length : Int) := by omega
    rw [J5 h1, J1, Js (by omega)]) N 0 (by omega) (by omega)
  exact this
theorem Y4t {d : Db} {l : List Con} {q : Qry} (h : SmallDb d) (hq : q.2.2.length <= 1048576) (hN : 1048576 < N) {j : Nat} (hj : j < (subsets d l).length) : Z28 N (d.1, d.2) (subsets d l)[j] (q.1, q.2.1, q.2.2) = some (cov d q (subsets d l)[j]) := by
 obtain ⟨hvb, h1, h2, h3⟩ := Y20 (J4 hj);have := Y3r (q := q) h hvb h1 h2 h3 hq hN;rw [Y2j hvb h1 h2 h3] at this;exact this
theorem Y39 {d : Db} {l : List Con} {q : Qry} (h : SmallDb d) (hl : l.length <= 1048576) (hq : q.2.2.length <= 1048576) (hN : 1048576 < N) : Z20 N d l q = some ((holdN d l q : Int), ((subsets d l).length : Int)) := by
 have hfew := (Yc d l).1;unfold Z20 Z94;rw [Ym h hl hN, J0];have hqf : Z0i N (d.1, d.2) (q.1, q.2.1, q.2.2) = some (queryFor d q) := Yj h hq hN;have := loop (fun k (s : Nat) => Z4k N k d.1 d.2 q.1 q.2.1 q.2.2 ((if queryFor d q then (((subsets d l).take s).filter (cov d q)).length else 0 : Nat) : Int) (subsets d l) (subsets d l) ((subsets d l).length : Int) (s : Int)) (fun s => s <= (subsets d l).length) (fun s => (subsets d l).length - s) (fun o => o = some ((holdN d l q : Int), ((subsets d l).length : Int))) (fun k j hj' => by
  simp only [Z4k, Z7t];by_cases hj : j < (subsets d l).length
  ·right;refine ⟨j + 1, hj, by omega, ?_⟩;have h1 : (j : Int) < ((subsets d l).length : Int) := by omega
   have hc : (((subsets d l).take j).filter (cov d q)).length <= 16384 := Jj (Jo _ _) (by rw [Jn]; omega);rw [J2 h1, J3, Y1 hj, grd_true, Y4 hj, hqf, J0, Y0 (j := j)];cases hv : queryFor d q with
   | false => rfl
   | true =>
    rw [J3, Y4t h hq hN hj, J0, Jc rfl, Jc rfl, Y2r hj];cases hcv : cov d q (subsets d l)[j] with
    | true => rw [J3, Y0, Jc rfl]
    | false => simp only [J1, J2e, if_false, Nat.add_zero]
  ·left;have h1 : ¬ (j : Int) < ((subsets d l).length : Int) := by omega
   rw [J5 h1, J1, Js (by omega)];rfl) N 0 (by omega) (by omega)
 simpa using this
theorem Y4u {d : Db} {l : List Con} {q : Qry} (h : SmallDb d) (hl : l.length <= 1048576) (hq : q.2.2.length <= 1048576) (hN : 1048576 < N) : Z1k N d l q = some (decide ((holdN d l q : Int) > 0)) := by
 unfold Z1k;rw [Y39 h hl hq hN];rfl
def allHold (d : Db) (l : List Con) (q : Qry) : Bool := queryFor d q && (subsets d l).all (cov d q)
theorem Y2s {d : Db} {l : List Con} {q : Qry} (h : SmallDb d) (hl : l.length <= 1048576) (hq : q.2.2.length <= 1048576) (hN : 1048576 < N) : Z15 N d l q = some (allHold d l q) := by
 have hfew := (Yc d l).1;unfold Z15 Z61 Z60 Z0a2;rw [Ym h hl hN, J0, Yj h hq hN];have hqf : Z0i N (d.1, d.2) (q.1, q.2.1, q.2.2) = some (queryFor d q) := Yj h hq hN;unfold allHold;have := loop (fun k (s : Nat) => (Z48 N k d.1 d.2 q.1 q.2.1 q.2.2 (subsets d l) ((subsets d l).length : Int) (s : Int)).bind fun p => some p.2) (fun s => s <= (subsets d l).length /\ (queryFor d q = true -> ((subsets d l).take s).all (cov d q) = true)) (fun s => (subsets d l).length - s) (fun o => ∃ b, o = some b /\ (queryFor d q = true -> b = !((subsets d l).all (cov d q)))) (fun k j hs => by
  obtain ⟨hj', h0⟩ := hs;simp only [Z48, Z8s];by_cases hj : j < (subsets d l).length
  ·have h1 : (j : Int) < ((subsets d l).length : Int) := by omega
   rw [J2 h1, J3, Y1 hj, grd_true, Y4 hj, hqf, J0, Y0 (j := j)];cases hv : queryFor d q with
   | false =>
    right;exact ⟨j + 1, ⟨hj, fun e => by cases e⟩, by omega, rfl⟩
   | true =>
    rw [J3, Y4t h hq hN hj, J0];cases hcv : cov d q (subsets d l)[j] with
    | false =>
     left;have hm : (subsets d l).all (cov d q) = false := List.all_eq_false.2 ⟨_, J4 hj, by rw [hcv]; simp⟩;exact ⟨true, rfl, fun _ => by rw [hm]; rfl⟩
    | true =>
     right;refine ⟨j + 1, ⟨hj, fun _ => ?_⟩, by omega, rfl⟩;rw [J7 hj, List.all_append, h0 hv];simp [hcv]
  ·left;have h1 : ¬ (j : Int) < ((subsets d l).length : Int) := by omega
   rw [Js (by omega)] at h0;rw [J5 h1, J1];exact ⟨false, rfl, fun e => by rw [h0 e]; rfl⟩) N 0 (by omega) ⟨by omega, by simp⟩
 rw [show ((0 : Nat) : Int) = 0 from rfl] at this;revert this;cases Z48 N N d.1 d.2 q.1 q.2.1 q.2.2 (subsets d l) ((subsets d l).length : Int) 0 with
 | none => rintro ⟨b, h, _⟩; cases h
 | some p =>
  rintro ⟨b, h, hb⟩
  simp only [J0, J1m] at h ⊢;cases hv : queryFor d q with
  | false => rfl
  | true =>
   rw [J3, h, hb hv];simp
structure Some (d : Db) (l : List Con) (ss : List (List Int)) : Prop where
 few : ss.length <= 16384
 sub : ∀ r ∈ ss, r ∈ subsets d l
theorem Y1c (d : Db) (l : List Con) : Some d l (subsets d l) := ⟨(Yc d l).1, fun r h => h⟩
theorem Y6u {d : Db} {l : List Con} {q : Qry} (h : SmallDb d) (hq : q.2.2.length <= 1048576) (hN : 1048576 < N) {r : List Int} (hr : r ∈ subsets d l) : Z28 N (d.1, d.2) r (q.1, q.2.1, q.2.2) = some (cov d q r) := by
 obtain ⟨hvb, h1, h2, h3⟩ := Y20 hr;have := Y3r (q := q) h hvb h1 h2 h3 hq hN;rw [Y2j hvb h1 h2 h3] at this;exact this
def found (d : Db) (q : Qry) (ss : List (List Int)) (want : Bool) : List Int × Bool := if queryFor d q then (match ss.find? fun r => cov d q r == want with
  | some r => (r, true)
  | none => ([], false)) else ([], false)
theorem Y3x {α : Type} {p : α -> Bool} {l : List α} {j : Nat} (hj : j < l.length) (h0 : (l.take j).find? p = none) : l.find? p = if p l[j] then some l[j] else (l.drop (j + 1)).find? p := by
 conv => lhs; rw [<- J26 j l, List.find?_append, h0, Option.none_or, Jb hj, List.find?_cons]
 cases hp : p l[j] <;> rfl
theorem Y7m {d : Db} {l : List Con} {q : Qry} {ss : List (List Int)} {want : Bool} (hs : Some d l ss) (h : SmallDb d) (hq : q.2.2.length <= 1048576) (hN : 1048576 < N) : Z6p N d q ss want = some (found d q ss want) := by
 have hfew := hs.few;unfold Z6p Z0b6;rw [Y13 h hq hN, J0];have hqf : Z0d N (d.1, d.2) (q.1, q.2.1, q.2.2) = some (queryFor d q) := Ye h hq hN;unfold found;cases hv : queryFor d q with
 | false =>
  obtain ⟨M, rfl⟩ : ∃ M, N = M + 1 := ⟨N - 1, by omega⟩;simp only [zS, Z5z, Z7w, hqf, hv];cases decide ((0 : Int) < (ss.length : Int)) <;> rfl
 | true =>
  rw [Jc rfl];exact loop (fun k (s : Nat) => Z5z N k ss want d.1 d.2 q.1 q.2.1 q.2.2 (need d q) (s : Int)) (fun s => s <= ss.length /\ (ss.take s).find? (fun r => cov d q r == want) = none) (fun s => ss.length - s) (fun o => o = some (match ss.find? fun r => cov d q r == want with
  | some r => (r, true)
  | none => ([], false))) (fun k j hs' => by
   obtain ⟨hj', h0⟩ := hs';simp only [Z5z, Z7w];by_cases hj : j < ss.length
   ·have h1 : (j : Int) < (ss.length : Int) := by omega
    have h14 := (Yc d l).2 _ (hs.sub _ (J4 hj));rw [J2 h1, J3, hqf, J0, hv, J3, Y1 hj, grd_true, Y4 hj, Y3i (by omega) hN, J0, Y0 (j := j)];cases hcv : (cov d q ss[j] == want) with
    | true =>
     left;rw [Y3x hj h0, J3, grd_true, Y3, grd_true];simp [hcv]
    | false =>
     right;refine ⟨j + 1, ⟨hj, ?_⟩, by omega, by rw [J1]⟩;rw [J7 hj, List.find?_append, h0];simp [hcv]
   ·left;have h1 : ¬ (j : Int) < (ss.length : Int) := by omega
    rw [Js (by omega)] at h0;rw [J5 h1, J1, h0]) N 0 (by omega) ⟨by omega, by simp⟩
def ones (n : Nat) : List Int := List.replicate n 1
theorem Y10 {d : Db} (hv : validDb d = true) : Good1 d (ones d.2.length) := by
 refine Y8t ?_;unfold validWeights weightsIn ones;rw [hv, J25];simp
theorem Y8u {d : Db} (hv : validDb d = true) : Parts d.2.length (sameD d) (blocksOf d) := by
 have hR := runs (Y6 hv);have hflat := Y2p hv;have hin := Y36 hv;have hb := (Y10 hv).blks;refine ⟨fun b hb => (Y26 hv b hb).1, hin, ?_, fun x h0 h1 => ?_, fun b hb x hx y hy => ?_, ?_, hR.symm⟩
 ·have := hb.flat;rw [J24] at this;exact this.2
 ·have : x ∈ (blocksOf d).flatten := by
   rw [hflat];unfold toI;exact Jg.2 ⟨x.toNat, by rw [Ji]; omega, by omega⟩
  obtain ⟨b, k1, k2⟩ := List.mem_flatten.1 this;exact ⟨b, k1, k2⟩
 ·unfold blocksOf at hb;rw [Jc hv] at hb;obtain ⟨c, hc, rfl⟩ := Jg.1 hb;obtain ⟨s, hs, rfl⟩ := Jg.1 hc;unfold toI at hx hy;obtain ⟨p, hp, rfl⟩ := Jg.1 hx;obtain ⟨q, hq, rfl⟩ := Jg.1 hy;have h1 := (Jv.1 hp).2;have h2 := (Jv.1 hq).2;exact hR.trans _ _ _ (hR.symm _ _ h1) h2
 ·unfold blocksOf;rw [Jc hv, J17];refine (Y89 hR).imp fun h1 x hx y hy => ?_;unfold toI at hx hy;obtain ⟨p, hp, rfl⟩ := Jg.1 hx;obtain ⟨q, hq, rfl⟩ := Jg.1 hy;exact h1 p hp q hq
theorem Y6v {d : Db} {l : List Con} {e : Int × Int} : e ∈ edgesOf d l ↔ ∃ a b : Nat, e = ((a : Int), (b : Int)) /\ a < b /\ b < d.2.length /\ edge d l a b = true := by
 unfold edgesOf;rw [J1a];constructor
 ·intro ⟨a, ha, h⟩;rw [Ji] at ha;unfold edgeR at h;obtain ⟨b, hb, h⟩ := J1a.1 h;rw [List.mem_range'_1] at hb;unfold edgeP at h;split at h
  ·rename_i he;rw [J1c] at h;exact ⟨a, b, h, by omega, by omega, he⟩
  ·simp at h
 ·intro ⟨a, b, e1, h1, h2, h3⟩;refine ⟨a, by rw [Ji]; omega, ?_⟩;unfold edgeR;refine J1a.2 ⟨b, by rw [List.mem_range'_1]; omega, ?_⟩;unfold edgeP;rw [Jc h3, e1];simp
theorem Y8n {d : Db} : EdgeS d.2.length (sameD d) (edgesOf d []) := by
 intro i k;rw [Y6v];constructor
 ·intro ⟨a, b, e, h1, h2, h3⟩;simp only [Prod.mk.injEq] at e;obtain ⟨rfl, rfl⟩ := e;unfold edge vany at h3;simp only [List.any_nil, Bool.or_false] at h3;exact ⟨by omega, by omega, by omega, by simpa using h3⟩
 ·intro ⟨h1, h2, h3, h4⟩;refine ⟨i.toNat, k.toNat, by simp only [Prod.mk.injEq]; omega, by omega, by omega, ?_⟩;unfold edge;rw [h4, Bool.true_or]
theorem Y4v (d : Db) (l : List Con) : (edgesOf d l).Pairwise fun a b => a.1 < b.1 \/ (a.1 = b.1 /\ a.2 < b.2) := by
 unfold edgesOf;rw [List.pairwise_flatMap];have hp : ∀ i k, ∀ e ∈ edgeP d l i k, e = ((i : Int), (k : Int)) := fun i k e he => by
  unfold edgeP at he;split at he
  ·simpa using he
  ·simp at he
 have hr : ∀ i, ∀ e ∈ edgeR d l i, e.1 = (i : Int) := fun i e he => by
  unfold edgeR at he;obtain ⟨k, _, he⟩ := J1a.1 he;rw [hp i k e he]
 refine ⟨fun i hi => ?_, J14.imp fun {i k} hik x hx y hy => ?_⟩
 ·unfold edgeR;rw [List.pairwise_flatMap];have hrg : (List.range' (i + 1) (d.2.length - (i + 1))).Pairwise (· < ·) := List.pairwise_lt_range';refine ⟨fun k hk => ?_, hrg.imp fun {k k'} hkk x hx y hy => ?_⟩
  ·unfold edgeP;split <;> simp
  ·rw [hp i k x hx, hp i k' y hy];right;exact ⟨rfl, by simp only; omega⟩
 ·left;rw [hr i x hx, hr k y hy];omega
theorem Y2t (d : Db) (l : List Con) : validE (edgesOf d l) = true := by
 unfold validE;rw [J6];intro j hj;unfold ordE;by_cases h0 : j = 0
 ·simp [h0]
 ·have h1 : j - 1 < (edgesOf d l).length := by omega
  have := Jk.1 (Y4v d l) (j - 1) j h1 hj (by omega);simp only [Y2 hj, Y2 h1];rcases this with h | ⟨h, h2⟩
  ·simp [h]
  ·simp [h, h2]
theorem Y3y {d : Db} (hv : validDb d = true) (k : Nat) : (repN (blocksOf d) k).Pairwise (· < ·) /\ picks (blocksOf d) (repN (blocksOf d) k) := by
 have hb := (Y10 hv).blks;unfold repN;refine ⟨?_, ?_⟩
 ·rw [List.pairwise_reverse];exact Y1y hb.rev.1 hb.rev.2
 ·have := Y12 (Y3o k hb.rev.1)
  rwa [J1o] at this
theorem Y8a {d : Db} (hv : validDb d = true) {r : List Int} : (r.Pairwise (· < ·) /\ picks (blocksOf d) r) ↔ ∃ k, k < sizeP (blocksOf d) /\ repN (blocksOf d) k = r := by
 constructor
 ·intro ⟨_, hp⟩;obtain ⟨k, h1, h2⟩ := Y3p (Y12 hp);rw [Yn] at h1;exact ⟨k, h1, by unfold repN; rw [h2, J1o]⟩
 ·intro ⟨k, h1, h2⟩;rw [<- h2];exact Y3y hv k
theorem Y21 {d : Db} (hv : validDb d = true) {r : List Int} : r ∈ subsets d [] ↔ ∃ k, k < sizeP (blocksOf d) /\ repN (blocksOf d) k = r := by
 rw [Y2q, <- Y8a hv, Y5r (Y8u hv) Y8n (Y2t d [])];exact ⟨fun h => h.2, fun h => ⟨hv, h⟩⟩
theorem Y8b {d : Db} (hv : validDb d = true) {k k' : Nat} (h1 : k < sizeP (blocksOf d)) (h2 : k' < sizeP (blocksOf d)) (h : repN (blocksOf d) k = repN (blocksOf d) k') : k = k' := by
 have hb := (Y10 hv).blks;have hsort : ∀ b ∈ blocksOf d, b.Nodup := fun b hbm => by
  have := hb.flat;rw [J24] at this;exact (this.1 b hbm).imp fun h e => by omega
 unfold repN at h;have h' := congrArg List.reverse h;rw [J1o, J1o] at h';exact Y5f (fun c hc => hsort c (J22.1 hc)) hb.rev.1 (by rw [Yn]; exact h1) (by rw [Yn]; exact h2) h'
theorem Y5v {d : Db} (hv : validDb d = true) : (subsets d []).length = sizeP (blocksOf d) := by
 have hn : (subsets d []).Nodup := by
  unfold subsets maxSets;rw [Jc hv, Jc (Y2t d [])];exact Y1z _ _ _ (by simp)
 have h1 : (subsets d []).length <= ((List.range (sizeP (blocksOf d))).map (repN (blocksOf d))).length := Y2e hn fun r hr => by
  obtain ⟨k, k1, k2⟩ := (Y21 hv).1 hr;exact Jg.2 ⟨k, Ji.2 k1, k2⟩
 have h2 : ((List.range (sizeP (blocksOf d))).map (repN (blocksOf d))).length <= (subsets d []).length := Y2e (by
  rw [List.nodup_iff_pairwise_ne, J17];refine J14.imp_of_mem fun {a b} ha hb hab e => ?_;have := Y8b hv (Ji.1 ha) (Ji.1 hb) e;omega) fun r hr => by
  obtain ⟨k, k1, k2⟩ := Jg.1 hr;exact (Y21 hv).2 ⟨k, Ji.1 k1, k2⟩
 rw [Jp, Jr] at h1 h2;omega
theorem Y5w {d : Db} {l : List Con} {q : Qry} {ss : List (List Int)} (hs : Some d l ss) (h : SmallDb d) (hq : q.2.2.length <= 1048576) (hN : 1048576 < N) : Z3p N d ss q = some (found d q ss false) := by
 have hfew := hs.few;unfold Z3p Z92;have hqf : Z0i N (d.1, d.2) (q.1, q.2.1, q.2.2) = some (queryFor d q) := Yj h hq hN;exact loop (fun k (s : Nat) => Z4j N k ss d.1 d.2 q.1 q.2.1 q.2.2 ss (ss.length : Int) (s : Int)) (fun s => s <= ss.length /\ (queryFor d q = true -> (ss.take s).find? (fun r => cov d q r == false) = none)) (fun s => ss.length - s) (fun o => o = some (found d q ss false)) (fun k j hs' => by
  obtain ⟨hj', h0⟩ := hs';simp only [Z4j, Z7s];unfold found;by_cases hj : j < ss.length
  ·have h1 : (j : Int) < (ss.length : Int) := by omega
   rw [J2 h1, J3, Y1 hj, grd_true, Y4 hj, hqf, J0, Y0 (j := j)];cases hv : queryFor d q with
   | false =>
    right;exact ⟨j + 1, ⟨hj, fun e => by cases e⟩, by omega, rfl⟩
   | true =>
    rw [J3, Y6u h hq hN (hs.sub _ (J4 hj)), J0, Jc rfl];cases hcv : cov d q ss[j] with
    | false =>
     left;rw [Y3x hj (h0 hv)];simp [hcv]
    | true =>
     right;refine ⟨j + 1, ⟨hj, fun _ => ?_⟩, by omega, rfl⟩;rw [J7 hj, List.find?_append, h0 hv];simp [hcv]
  ·left;have h1 : ¬ (j : Int) < (ss.length : Int) := by omega
   rw [Js (by omega)] at h0;rw [J5 h1, J1];cases hv : queryFor d q with
   | false => rfl
   | true => rw [Jc rfl, h0 hv]) N 0 (by omega) ⟨by omega, by simp⟩
theorem Y6w {d : Db} {l : List Con} {q : Qry} {ss : List (List Int)} (hs : Some d l ss) : (found d q ss false).1.length <= 14 := by
 unfold found;split
 ·split
  ·rename_i r hr;exact (Yc d l).2 _ (hs.sub _ (List.mem_of_find?_eq_some hr))
  ·simp
 ·simp
theorem Y40 {d : Db} {l : List Con} {q : Qry} (h : SmallDb d) (hl : l.length <= 1048576) (hq : q.2.2.length <= 1048576) (hN : 1048576 < N) : Z14 N d l q = some (found d q (subsets d l) false) := by
 unfold Z14;rw [Y1j h hl hN, J0, Y7m (Y1c d l) h hq hN];rfl
theorem Y41 {d : Db} {l : List Con} {q : Qry} (h : SmallDb d) (hl : l.length <= 1048576) (hq : q.2.2.length <= 1048576) (hN : 1048576 < N) : Z11 N d l q = some (found d q (subsets d l) false) := by
 unfold Z11;rw [Ym h hl hN, J0, Y5w (Y1c d l) h hq hN];rfl
theorem Y4w {a : List Int} (ha : a.length <= 1048576) (hN : 1048576 < N) : Z41 N a a = some true := by
 unfold Z41 Z0at;have h0 : ((a.length : Int) != (a.length : Int)) = false := by simp
 rw [h0, J1];have := Y42 (n := a.length) (fun _ => true) (fun k i => Z58 N k a a i) (fun k => by simp [Z58, Z7d]) (fun k j hj => by
  have h1 : (j : Int) < (a.length : Int) := by omega
  simp only [zS, Z58, Z7d, h1, Y1 hj, Y4 hj, bneI, Y0 (j := j), if_true]) (k := N) (by omega)
 rw [this];simp
theorem Y5x {a : List (List Int)} (ha : a.length <= 1048576) (hr : ∀ x ∈ a, x.length <= 1048576) (hN : 1048576 < N) : Z64 N a a = some true := by
 unfold Z64 Z0au;have h0 : ((a.length : Int) != (a.length : Int)) = false := by simp
 rw [h0, J1];exact Yx (fun K (j : Nat) => Z6q N K a a (j : Int)) (fun j => j <= a.length) (fun j => a.length - j) (fun o => o = some true) (fun K j hs ih => by
  simp only [Z6q, Z9o];by_cases hj : j < a.length
  ·have c : (j : Int) < (a.length : Int) := by omega
   simp only [zS, c, Y1 hj, Y4 hj, Y4w (hr _ (J4 hj)) hN];rw [Y0];exact ih (j + 1) hj (by omega)
  ·have c : ¬ (j : Int) < (a.length : Int) := by omega
   simp only [zS, c]) N 0 (by omega) (by omega)
theorem Y6x {d : Db} {l : List Con} {q : Qry} (h : SmallDb d) (hq : q.2.2.length <= 1048576) (hN : 1048576 < N) {r : List Int} (hr : r ∈ subsets d l) : Z6r N d r q = some (cov d q r) := by
 obtain ⟨hv, h1, h2, h3⟩ := Y20 hr;unfold Z6r;rw [Y5e h hv h1 h2 h3 hN, J0];simp only [J3];rw [Y4n (Y2f h h2 h3) hq hN, J0, Y2j hv h1 h2 h3]
theorem Y1l {d : Db} {q : Qry} (h : queryFor d q = true) : validDb d = true := by
 unfold queryFor at h;simp only [J8] at h;exact h.1
theorem Y5y {d : Db} {q : Qry} {want : Bool} (h : SmallDb d) (hqf : queryFor d q = true) (hq : q.2.2.length <= 1048576) (hN : 1048576 < N) : ∃ r b, Z5t N d q want = some (r, b) /\ (b = true ↔ ∃ k, k < sizeP (blocksOf d) /\ cov d q (repN (blocksOf d) k) = want) := by
 have hv := Y1l hqf;have hg := Y10 hv;have hb := hg.blks;have hfew : sizeP (blocksOf d) <= 2 ^ 14 := Jj (Y1x hb.ne) (J1e (by decide) hb.sum);unfold Z5t Z9r;rw [Ye h hq hN, J0, hqf, J9, J1, Y13 h hq hN, J0];have := Yx (fun K (k : Nat) => Z7e N K want d.1 d.2 (need d q) (k : Int)) (fun k => k <= sizeP (blocksOf d) /\ ∀ i, i < k -> cov d q (repN (blocksOf d) i) ≠ want) (fun k => sizeP (blocksOf d) - k) (fun o => ∃ r b, o = some (r, b) /\ (b = true ↔ ∃ k, k < sizeP (blocksOf d) /\ cov d q (repN (blocksOf d) k) = want)) (fun K k hs ih => by
  obtain ⟨s1, s2⟩ := hs;simp only [Z7e, Z0a4, Y11 (d := (d.1, d.2)) h hg hN, J0, show blocksOf (d.1, d.2) = blocksOf d from rfl];by_cases hlt : k < sizeP (blocksOf d)
  ·have h1 : (k : Int) < ((sizeP (blocksOf d) : Nat) : Int) := by omega
   have hr := (Y3n (Y3y hv k).2);have hl := hb.len;have hc : Z4d N (need d q) (repN (blocksOf d) k) = some (cov d q (repN (blocksOf d) k)) := by
    have := Y3i (N := N) (d := d) (q := q) (s := repN (blocksOf d) k) (by omega) hN;unfold Z2a at this;cases hx : Z4d N (need d q) (repN (blocksOf d) k) with
    | none => rw [hx] at this; simp at this
    | some x => rw [hx] at this; simpa using this
   rw [J2 h1, J3, nthV (d := (d.1, d.2)) h hg hN hlt, J0, show blocksOf (d.1, d.2) = blocksOf d from rfl];simp only [hc, J0];cases he : (cov d q (repN (blocksOf d) k) == want) with
   | true =>
    rw [J3];exact ⟨_, _, rfl, ⟨fun _ => ⟨k, hlt, by simpa using he⟩, fun _ => rfl⟩⟩
   | false =>
    rw [J1, Y0];refine ih (k + 1) ⟨hlt, fun i hi => ?_⟩ (by omega);by_cases e : i = k
    ·rw [e]; simpa using he
    ·exact s2 i (by omega)
  ·have h1 : ¬ (k : Int) < ((sizeP (blocksOf d) : Nat) : Int) := by omega
   simp only [zS, h1];exact ⟨_, _, rfl, ⟨fun h => (Bool.noConfusion h), fun ⟨i, i1, i2⟩ => absurd i2 (s2 i (by omega))⟩⟩) N 0 (by omega) ⟨by omega, by simp⟩
 exact this
def certN (d : Db) (q : Qry) : Bool := queryFor d q && decide (∀ k, k < sizeP (blocksOf d) -> cov d q (repN (blocksOf d) k) = true)
theorem Y6y {d : Db} {q : Qry} (h : SmallDb d) (hq : q.2.2.length <= 1048576) (hN : 1048576 < N) : Z4a N d q = some (certN d q) := by
 unfold Z4a Z39 certN;cases hqf : queryFor d q with
 | false =>
  unfold Z5t Z9r;rw [Ye h hq hN, hqf];rfl
 | true =>
  obtain ⟨r, b, e, hb⟩ := Y5y (want := false) h hqf hq hN;rw [e, J0, J0, Ye h hq hN, J0, hqf, J3, Ja];congr 1;simp only;rw [J15, J1z, J6];constructor
  ·intro hf k hk;cases hc : cov d q (repN (blocksOf d) k) with
   | true => rfl
   | false =>
    have := hb.2 ⟨k, hk, hc⟩;rw [hf] at this;cases this
  ·intro ha;cases b with
   | false => rfl
   | true =>
    obtain ⟨k, k1, k2⟩ := hb.1 rfl;rw [ha k k1] at k2;cases k2
theorem Y7n {d : Db} {q : Qry} (hqf : queryFor d q = true) : allHold d [] q = certN d q := by
 have hv := Y1l hqf;unfold allHold certN;rw [hqf, Ja, Ja, J15, Jh, J6];constructor
 ·intro h k hk;exact h _ ((Y21 hv).2 ⟨k, hk, rfl⟩)
 ·intro h r hr;obtain ⟨k, k1, rfl⟩ := (Y21 hv).1 hr;exact h k k1
theorem Y5z {α : Type} {p : α -> Bool} (l : List α) : l.all p = (((l.filter p).length : Int) == (l.length : Int)) := by
 rw [beqI, J15, Jh, J6];constructor
 ·intro h;rw [List.filter_eq_self.2 h]
 ·intro h;exact J1g.1 (by omega)
theorem Y60 {d : Db} {q : Qry} {ss : List (List Int)} {want : Bool} (h : (found d q ss want).2 = true) : (found d q ss want).1 ∈ ss /\ cov d q (found d q ss want).1 = want := by
 unfold found at h ⊢;split at h
 ·rename_i hq;rw [Jc hq];cases hf : ss.find? (fun r => cov d q r == want) with
  | none => rw [hf] at h; simp at h
  | some r =>
   have := List.find?_some hf;exact ⟨List.mem_of_find?_eq_some hf, by simpa using this⟩
 ·simp at h
theorem law_FnSubsetRepairs (hN : 1048576 < N) {code : List Int} : laws_FnSubsetRepairs N code = some true := by
 unfold laws_FnSubsetRepairs Z0az;rw [J0];by_cases hc : (code.length : Int) > 1048576
 ·rw [J2 hc]; rfl
 rw [J5 hc, J1];obtain ⟨d, l, q, e1, hd, hl, hq⟩ := Y5m (N := N) (code := code) (by omega) hN;have hsm := hd.small (by omega);have hl1 : l.length <= 1048576 := by omega
 have hq1 : q.2.2.length <= 1048576 := by omega
 have hfew := Yc d l;have hff := Y6w (q := q) (Y1c d l);have h0 : ([] : List Con).length <= 1048576 := by simp
 simp only [zS, e1, Y40 hsm hl1 hq1 hN, Y41 hsm hl1 hq1 hN, Y5u hsm hl1 hq1 hN, Y39 hsm hl1 hq1 hN, J23, Y4w (show (found d q (subsets d l) false).1.length <= 1048576 by omega) hN, bneI, Y1j hsm hl1 hN, Ym hsm hl1 hN, Y5x (show (subsets d l).length <= 1048576 by omega) (fun x hx => Jj (hfew.2 x hx) (by omega)) hN, Ye hsm hq1 hN, Y3k hsm hl1 hN, Y2s hsm hl1 hq1 hN, Y4u hsm hl1 hq1 hN, Y2s hsm h0 hq1 hN, Ym hsm h0 hN, Y6y hsm hq1 hN];cases hqf : queryFor d q with
 | false =>
  have f1 : (found d q (subsets d l) false).2 = false := by unfold found; rw [hqf]; rfl
  have f2 : allHold d l q = false := by unfold allHold; rw [hqf]; rfl
  have f3 : holdN d l q = 0 := by unfold holdN; rw [hqf]; rfl
  rw [f1, f2, f3];rfl
 | true =>
  have hv := Y1l hqf;have tail : (bif (allHold d l q == ((holdN d l q : Int) == ((subsets d l).length : Int))) then (bif true then (bif (allHold d [] q == certN d q) then (Z0v N d).bind fun r28 => some (((subsets d []).length : Int) == r28) else some false) else some false) else some false) = some true := by
   have t1 : allHold d l q = ((holdN d l q : Int) == ((subsets d l).length : Int)) := by
    unfold allHold holdN;rw [hqf, Ja, Jc rfl];exact Y5z _
   rw [t1, J23, J3, J3, Y7n hqf, J23, J3, Y11 hsm (Y10 hv) hN, J0, Y5v hv, J23]
  rw [J9, J1];cases hf : (found d q (subsets d l) false).2 with
  | false => exact tail
  | true =>
   obtain ⟨g1, g2⟩ := Y60 hf;obtain ⟨_, hm⟩ := Y2q.1 g1;rw [J3, hv, Jc rfl, Y5b (Y30 (Y6 hv)) (by omega) hN, hm, J0, J9, J1, Y6x hsm hq1 hN g1, g2, J0, J1];exact tail
end Go.PL
