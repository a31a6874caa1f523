/- The plain law of the functions read plainly. Conditions: those that stand in each theorem. -/
import Derived.Test.YtdnmcmhnikjphaaGreatPlA
import Derived.KernelRfl

set_option linter.unusedVariables false
set_option linter.unusedSimpArgs false
set_option linter.unnecessarySimpa false

namespace Go.PL
theorem om {p : Prop} (h : p := by omega) : p := h
theorem sm {p : Prop} (h : p := by simp) : p := h
theorem gr {p : Prop} (h : p := by grind) : p := h
abbrev J0 := @Option.bind_some
abbrev J1 := @cond_false
abbrev J2 := @decide_eq_true
abbrev J3 := @cond_true
abbrev J4 := @List.getElem_mem
abbrev J5 := @List.take_succ_eq_append_getElem
abbrev J6 := @decide_eq_true_eq
abbrev J7 := @decide_eq_false
abbrev J8 := @Bool.and_eq_true
abbrev J9 := @List.drop_eq_getElem_cons
abbrev Ja := @Bool.not_true
abbrev Jb := @Bool.true_and
abbrev Jc := @if_pos
abbrev Jd := @List.mem_iff_getElem
abbrev Je := @List.mem_map
abbrev Jf := @List.mem_cons
abbrev Jg := @List.all_eq_true
abbrev Jh := @List.mem_filter
abbrev Ji := @Nat.le_trans
abbrev Jj := @List.mem_range
abbrev Jk := @List.append_nil
abbrev Jl := @List.pairwise_iff_getElem
abbrev Jm := @Int.toNat_natCast
abbrev Jn := @if_neg
abbrev Jo := @List.length_filter_le
abbrev Jp := @List.take_of_length_le
abbrev Jq := @Bool.and_false
abbrev Jr := @List.length_map
abbrev Js := @List.length_range
abbrev Jt := @Bool.false_or
abbrev Ju := @List.pairwise_cons
abbrev Jv := @List.mem_append
abbrev Jw := @Bool.not_false
abbrev Jx := @List.map_append
abbrev Jy := @List.drop_of_length_le
abbrev Jz := @List.pairwise_lt_range
abbrev J10 := @Int.lt_irrefl
abbrev J11 := @List.pairwise_map
abbrev J12 := @Bool.false_and
abbrev J13 := @List.mem_flatMap
abbrev J14 := @List.mem_singleton
abbrev J15 := @Decidable.byContradiction
abbrev J16 := @Nat.le_refl
abbrev J17 := @List.length_take
abbrev J18 := @List.take_length
abbrev J19 := @List.getElem_of_mem
abbrev J1a := @List.range_succ
abbrev J1b := @List.length_append
abbrev J1c := @Bool.eq_false_iff
abbrev J1d := @List.append_assoc
abbrev J1e := @List.Pairwise.filter
abbrev J1f := @List.drop_length
abbrev J1g := @List.map_congr_left
abbrev J1h := @Bool.eq_iff_iff
abbrev J1i := @List.nil_append
abbrev J1j := @List.getElem?_eq_getElem
abbrev J1k := @List.filter_append
abbrev J1l := @decide_eq_false_iff_not
abbrev J1m := @Option.some.injEq
abbrev J1n := @List.flatMap_cons
abbrev J1o := @Bool.not_eq_true'
abbrev J1p := @List.any_eq_true
abbrev J1q := @List.length_filter_eq_length_iff
abbrev J1r := @List.mem_of_mem_take
abbrev J1s := @Nat.mul_le_mul_right
abbrev J1t := @List.length_pos_iff
abbrev J1u := @List.drop_zero
abbrev J1v := @Nat.add_sub_cancel
abbrev J1w := @List.mem_cons_self
abbrev J1x := @Bool.or_false
abbrev J1y := @List.flatten_cons
abbrev J1z := @List.getElem_take
abbrev J20 := @List.reverse_cons
abbrev J21 := @Bool.or_eq_true
variable {N : Nat}
theorem Y6 {x : Int} (a : -9223372036854775808 <= x := by omega) (b : x <= 9223372036854775807 := by omega) : w64 x = x := by
 unfold w64 IntKind.wrap;simp [IntKind.bits, IntKind.signed];omega
theorem Y0 {j : Nat} (h : j < 4611686018427387904 := by omega) : w64 ((j : Int) + 1) = ((j + 1 : Nat) : Int) := by
 rw [Y6]; omega
@[simp] theorem grd_true {a : Type} (x : Option a) : grd true x = x := rfl
@[simp] theorem grd_false {a : Type} (x : Option a) : grd false x = none := rfl
theorem Y2x {a : Type} {b : Int} (h : b ≠ 0) (x : Option a) : grz b x = x := by simp [grz, h]
@[simp] theorem letv_eq {a b : Type} (v : a) (k : a -> b) : letv v k = k v := rfl
theorem zS : (∀ (a : Type) (x y : a), cond true x y = x) /\ (∀ (a : Type) (x y : a), cond false x y = y) /\ (∀ (a : Type) (x : Option a), grd true x = x) /\ (∀ h : Decidable True, @decide True h = true) /\ (∀ h : Decidable False, @decide False h = false) /\ (∀ (a b : Type) (x : a) (f : a -> Option b), (some x).bind f = f x) /\ ((!true) = false) /\ ((!false) = true) := ⟨fun _ _ _ => rfl, fun _ _ _ => rfl, fun _ _ => rfl, fun h => by simp, fun h => by simp, fun _ _ _ _ => rfl, rfl, rfl⟩
theorem Y7r {a : Type} (j : Nat) (xs : List a) : inb (j : Int) xs = decide (j < xs.length) := by
 simp [inb]
theorem Y1 {a : Type} {j : Nat} {xs : List a} (h : j < xs.length) : inb (j : Int) xs = true := by simp [Y7r, h]
theorem Y4 {a : Type} {d : a} {j : Nat} {xs : List a} (h : j < xs.length) : at_ d xs (j : Int) = xs[j] := by simp [at_, h]
theorem bneI (a b : Int) : (a != b) = !decide (a = b) :=gr
theorem beqI (a b : Int) : (a == b) = decide (a = b) :=gr
theorem Y7s {p : Prop} [Decidable p] {a : Type} (x y : Option a) : (bif !decide p then x else y) = if decide p then y else x := by by_cases h : p <;> simp [h]
theorem loop {d R : Type} (f : Nat -> d -> Option R) (I : d -> Prop) (c : d -> Nat) (Q : Option R -> Prop) (a : ∀ k s, I s -> Q (f (k + 1) s) \/ ∃ b, I b /\ c b < c s /\ f (k + 1) s = f k b) : ∀ (k : Nat) (s : d), c s < k -> I s -> Q (f k s)
 | 0, s, hk, hs => om
 | k + 1, s, hk, hs => by
  rcases a k s hs with h | ⟨b, e, i, g⟩
  ·exact h
  ·rw [g];exact loop f I c Q a k b om e
theorem Y41 {n : Nat} (p : Nat -> Bool) (f : Nat -> Int -> Option Bool) (b : ∀ k, f (k + 1) (n : Int) = some true) (a : ∀ k j, j < n -> f (k + 1) (j : Int) = if p j then f k ((j + 1 : Nat) : Int) else some false) {k : Nat} (e : n < k) : f k 0 = some (decide (∀ j, j < n -> p j = true)) := by
 have := loop (fun k (j : Nat) => f k (j : Int)) (fun j => j <= n /\ ∀ i, i < j -> p i = true) (fun j => n - j) (fun o => o = some (decide (∀ j, j < n -> p j = true))) (fun k j l => by
  obtain ⟨m, c⟩ := l;by_cases d : j < n
  ·rw [a k j d];cases g : p j with
   | true =>
    right;exact ⟨j + 1, ⟨d, fun i hi => by rcases Nat.lt_or_eq_of_le (Nat.le_of_lt_succ hi) with h | h; exact c i h; rw [h]; exact g⟩, om, sm⟩
   | false =>
    left;have : ¬ ∀ j, j < n -> p j = true := fun h => gr;simp [this]
  ·left;have : j = n :=om;subst this;rw [b];symm;simpa using c) k 0 (by simpa using e) ⟨om, om⟩
 exact this
theorem Yb {R : Type} {n : Nat} (p : Nat -> Bool) (c e : Option R) (f : Nat -> Int -> Option R) (b : ∀ k, f (k + 1) (n : Int) = e) (a : ∀ k j, j < n -> f (k + 1) (j : Int) = if p j then f k ((j + 1 : Nat) : Int) else c) {k : Nat} (l : n < k) : f k 0 = if ∀ j, j < n -> p j = true then e else c := by
 have := loop (fun k (j : Nat) => f k (j : Int)) (fun j => j <= n /\ ∀ i, i < j -> p i = true) (fun j => n - j) (fun o => o = if ∀ j, j < n -> p j = true then e else c) (fun k j q => by
  obtain ⟨r, d⟩ := q;by_cases g : j < n
  ·rw [a k j g];cases m : p j with
   | true =>
    right;exact ⟨j + 1, ⟨g, fun i hi => by rcases Nat.lt_or_eq_of_le (Nat.le_of_lt_succ hi) with h | h; exact d i h; rw [h]; exact m⟩, om, sm⟩
   | false =>
    left;have : ¬ ∀ j, j < n -> p j = true := fun h => by simp_all
    simp [this]
  ·left;have : j = n :=om;subst this;rw [b, Jc d]) k 0 (by simpa using l) ⟨om, om⟩
 exact this
theorem first {n : Nat} (p : Nat -> Bool) (f : Nat -> Int -> Option Int) (b : ∀ k, f (k + 1) (n : Int) = some (-1)) (a : ∀ k j, j < n -> f (k + 1) (j : Int) = if p j then some (j : Int) else f k ((j + 1 : Nat) : Int)) {k : Nat} (e : n < k) :
  (∃ j, j < n /\ p j = true /\ (∀ i, i < j -> p i = false) /\ f k 0 = some (j : Int)) \/ ((∀ i, i < n -> p i = false) /\ f k 0 = some (-1)) := by
 have := loop (fun k (j : Nat) => f k (j : Int)) (fun j => j <= n /\ ∀ i, i < j -> p i = false) (fun j => n - j) (fun o => (∃ j, j < n /\ p j = true /\ (∀ i, i < j -> p i = false) /\ o = some (j : Int)) \/ ((∀ i, i < n -> p i = false) /\ o = some (-1))) (fun k j l => by
  obtain ⟨m, d⟩ := l;by_cases c : j < n
  ·rw [a k j c];cases g : p j with
   | true => grind
   | false =>
    right;exact ⟨j + 1, ⟨c, fun i hi => by rcases Nat.lt_or_eq_of_le (Nat.le_of_lt_succ hi) with h | h; exact d i h; rw [h]; exact g⟩, om, sm⟩
  ·grind) k 0 (by simpa using e) ⟨om, om⟩
 exact this
theorem Y9 {j : Nat} (h : 0 < j) (a : j < 4611686018427387904) : w64 ((j : Int) - 1) = ((j - 1 : Nat) : Int) := by
 rw [Y6]; omega
theorem Y8 {b : Type} {i : Int} {xs : List b} (a : 0 <= i) (h : i < xs.length) : inb i xs = true := by simp [inb, a, h]
theorem Y18 {a : Type} {d : a} {i : Int} {xs : List a} (b : 0 <= i) (h : i < xs.length) : at_ d xs i = xs[i.toNat]' om := by
 unfold at_;rw [List.getD_eq_getElem?_getD, J1j om];rfl
abbrev Rel := ByteArray × Int × Int
abbrev Fact := Int × List Int
abbrev Db := List Rel × List Fact
structure SmallDb (d : Db) : Prop where
 rels : d.1.length <= 1048576
 facts : d.2.length <= 1048576
 vals : ∀ f ∈ d.2, f.2.length <= 1048576
theorem Y4z {c : Type} [DecidableEq c] {a b : List c} (h : a.length = b.length) : (a = b) ↔ ∀ j, j < a.length -> (decide (a[j]? = b[j]?)) = true := by
 constructor
 ·grind
 ·intro d;apply List.ext_getElem? ;intro j;by_cases e : j < a.length
  ·grind
  ·grind
theorem l1In (N : Nat) (x a b : Int) : Z5 N x a b = some (decide (a <= x /\ x <= b)) := by
 unfold Z5;by_cases h : a <= x <;> simp [h]
theorem Yk (N : Nat) (x a b : Int) : Z6 N x a b = some (decide (a <= x /\ x <= b)) := by
 unfold Z6;by_cases h : a <= x <;> simp [h]
def validRel (r : Rel) : Bool := (Z0c 0 r).getD false
theorem Y3b (N : Nat) (r : Rel) : Z0c N r = some (validRel r) := by
 have c : ∃ b, Z0c 0 r = some b := by
  unfold Z0c;by_cases h : r.1.size = 1
  ·have a : ∃ b, byteAt r.1 0 = some b := by
    unfold byteAt;have : (0 : Int).toNat < r.1.size :=om;exact ⟨r.1[(0 : Int).toNat], by rw [Jc om, getElem?_pos]⟩
   obtain ⟨b, a⟩ := a;rw [a];simp only [J0, l1In];cases ((r.1.size : Int) == 1) with
   | false => exact ⟨_, rfl⟩
   | true =>
    cases decide ((b.toNat : Int) >= 97) with
    | false => exact ⟨_, rfl⟩
    | true =>
     cases decide ((b.toNat : Int) <= 122) with
     | false => exact ⟨_, rfl⟩
     | true =>
      cases decide (1 <= r.2.1 /\ r.2.1 <= 3) with
      | false => exact ⟨_, rfl⟩
      | true => exact ⟨_, rfl⟩
  ·have d : ((r.1.size : Int) == 1) = false := by rw [beqI]; simp; omega
   rw [d]; exact ⟨false, rfl⟩
 obtain ⟨b, a⟩ := c;have e : Z0c N r = Z0c 0 r := by
  unfold Z0c; simp [l1In]
 rw [e, validRel, a]; rfl
theorem Y7t (N : Nat) (r : Rel) : Z2s N r = some (validRel r) := by
 rw [<- Y3b N r];unfold Z2s Z0c;simp [l1In, Yk]
def validRels (l : List Rel) : Bool := decide ((∀ j, j < l.length -> (validRel (l.getD j (⟨#[]⟩, 0, 0)) && (decide (j = 0) || slt (l.getD (j - 1) (⟨#[]⟩, 0, 0)).1 (l.getD j (⟨#[]⟩, 0, 0)).1)) = true) /\ l.length <= 4)
theorem Y2 {a : Type} {d : a} {j : Nat} {xs : List a} (h : j < xs.length) : xs.getD j d = xs[j] := by simp [h]
theorem Y1m {l : List Rel} (g : l.length <= 1048576) (f : 1048576 < N) : Z0h N l = some (validRels l) := by
 unfold Z0h Z4o;rw [Yb (n := l.length) (fun j => validRel (l.getD j (⟨#[]⟩, 0, 0)) && (decide (j = 0) || slt (l.getD (j - 1) (⟨#[]⟩, 0, 0)).1 (l.getD j (⟨#[]⟩, 0, 0)).1)) (some false) (some (decide (l.length <= 4))) (fun k i => Z0o N k l i)
  (fun k => by simp [Z0o, Z1k]; omega) (fun k j b => ?_) om]
 ·unfold validRels;by_cases h : ∀ j, j < l.length -> (validRel (l.getD j (⟨#[]⟩, 0, 0)) && (decide (j = 0) || slt (l.getD (j - 1) (⟨#[]⟩, 0, 0)).1 (l.getD j (⟨#[]⟩, 0, 0)).1)) = true
  ·grind
  ·grind
 ·have d : (j : Int) < (l.length : Int) :=om;simp only [zS, Z0o, Z1k, d, Y1 b, Y4 b, Y3b, Y2 b, Y0 (j := j)];cases validRel l[j] with
  | false => rfl
  | true =>
   simp only [zS, Jb];by_cases c : j = 0
   ·subst c; simp
   ·have e : (j : Int) > 0 :=om;have a : j - 1 < l.length :=om;simp only [zS, e, Y9 (show 0 < j by omega) om, Y1 a, Y4 a, c, Jt, Y2 a];cases slt l[j - 1].1 l[j].1 <;> rfl
theorem Y42 {l : List Rel} (g : l.length <= 1048576) (f : 1048576 < N) : Z0z N l = some (validRels l) := by
 rw [<- Y1m g f];unfold Z0z Z6r Z0h Z4o;rw [Yb (n := l.length) (fun j => validRel (l.getD j (⟨#[]⟩, 0, 0)) && (decide (j = 0) || slt (l.getD (j - 1) (⟨#[]⟩, 0, 0)).1 (l.getD j (⟨#[]⟩, 0, 0)).1)) (some false) (some (decide (l.length <= 4))) (fun k i => Z0o N k l i)
  (fun k => by simp [Z0o, Z1k]; omega) (fun k j b => ?_) om,
  Yb (n := l.length) (fun j => validRel (l.getD j (⟨#[]⟩, 0, 0)) && (decide (j = 0) || slt (l.getD (j - 1) (⟨#[]⟩, 0, 0)).1 (l.getD j (⟨#[]⟩, 0, 0)).1)) (some false) (some (decide (l.length <= 4))) (fun k i => Z27 N k l l (l.length : Int) i)
  (fun k => by simp [Z27, Z43]; omega) (fun k j b => ?_) om]
 ·have d : (j : Int) < (l.length : Int) :=om;simp only [zS, Z27, Z43, d, Y1 b, Y4 b, Y7t, Y2 b, Y0 (j := j)];cases validRel l[j] with
  | false => rfl
  | true =>
   simp only [zS, Jb];by_cases c : j = 0
   ·subst c; simp
   ·have e : (j : Int) > 0 :=om;have a : j - 1 < l.length :=om;simp only [zS, e, Y9 (show 0 < j by omega) om, Y1 a, Y4 a, c, Jt, Y2 a];cases slt l[j - 1].1 l[j].1 <;> rfl
 ·have d : (j : Int) < (l.length : Int) :=om;simp only [zS, Z0o, Z1k, d, Y1 b, Y4 b, Y3b, Y2 b, Y0 (j := j)];cases validRel l[j] with
  | false => rfl
  | true =>
   simp only [zS, Jb];by_cases c : j = 0
   ·subst c; simp
   ·have e : (j : Int) > 0 :=om;have a : j - 1 < l.length :=om;simp only [zS, e, Y9 (show 0 < j by omega) om, Y1 a, Y4 a, c, Jt, Y2 a];cases slt l[j - 1].1 l[j].1 <;> rfl
def validVals (xs : List Int) : Bool := xs.all fun x => decide (0 <= x /\ x <= 9)
theorem Y3c {a : Type} {d : a} {xs : List a} {p : a -> Bool} : (∀ j, j < xs.length -> p (xs.getD j d) = true) ↔ xs.all p = true := by
 rw [Jg];constructor
 ·intro h x b;obtain ⟨i, hi, rfl⟩ := Jd.1 b;have := h i hi
  rwa [Y2 hi] at this
 ·grind
def fact1 (l : List Rel) (f : Fact) : Bool := decide (0 <= f.1 /\ f.1 <= (l.length : Int) - 1) && (decide ((f.2.length : Int) = (l.getD f.1.toNat (⟨#[]⟩, 0, 0)).2.1) && validVals f.2)
theorem Y19 {l : List Rel} {f : Fact} (s : l.length <= 1048576) (q : f.2.length <= 1048576) (o : 1048576 < N) : Z0r N l f = some (validRels l && fact1 l f) := by
 obtain ⟨r, v⟩ := f;unfold Z0r Z9d;rw [Y1m s o, J0];cases validRels l with
 | false => rfl
 | true =>
  simp only [zS, l1In, Jb, fact1];rw [Y6];by_cases h : 0 <= r /\ r <= (l.length : Int) - 1
  ·have e : r.toNat < l.length :=om;simp only [zS, h, and_self, Y8 h.1 (show r < l.length by omega), Y18 h.1 (show r < l.length by omega), bneI, Y2 e, Jb];by_cases g : (v.length : Int) = l[r.toNat].2.1
   ·simp only [zS, g, Jb];rw [Yb (n := v.length) (fun j => decide (0 <= v.getD j 0 /\ v.getD j 0 <= 9)) (some false) (some true) (fun k i => Z44 N k r v i) (fun k => by simp [Z44, Z61]) (fun k j b => ?_) gr]
    ·unfold validVals;by_cases a : ∀ j, j < v.length -> decide (0 <= v.getD j 0 /\ v.getD j 0 <= 9) = true
     ·rw [Jc a, (Y3c (d := (0 : Int)) (p := fun x => decide (0 <= x /\ x <= 9))).1 a]
     ·rw [Jn a];congr 1; symm;rw [J1c];exact fun m => a ((Y3c (d := (0 : Int)) (p := fun x => decide (0 <= x /\ x <= 9))).2 m)
    ·have c : (j : Int) < (v.length : Int) :=om;simp only at q;simp only [zS, Z44, Z61, c, Y1 b, Y4 b, l1In, Y2 b, Y0 (j := j), Y7s]
   ·grind
  ·grind
def cmpInts : List Int -> List Int -> Int
 | [], [] => 0
 | [], _ :: _ => -1
 | _ :: _, [] => 1
 | a :: x, b :: y => if a < b then -1 else if a > b then 1 else cmpInts x y
theorem Y2y : ∀ (a b : List Int), cmpInts a b = 0 ↔ a = b
 | [], [] => by simp [cmpInts]
 | [], _ :: _ => by simp [cmpInts]
 | _ :: _, [] => by simp [cmpInts]
 | a :: x, b :: y => by
  simp [cmpInts];split
  ·grind
  ·split
   ·grind
   ·rw [Y2y x y];constructor
    ·grind
    ·grind
theorem Y43 {a b : List Int} (t : a.length <= 1048576) (u : b.length <= 1048576) (s : 1048576 < N) : Z6l N a b = some (cmpInts a b) := by
 have := loop (fun k (j : Nat) => Z59 N k a b (j : Int)) (fun j => j <= a.length /\ j <= b.length /\ cmpInts (a.drop j) (b.drop j) = cmpInts a b) (fun j => a.length - j) (fun o => o = some (cmpInts a b)) (fun k j p => by
  obtain ⟨q, r, c⟩ := p;by_cases g : j < a.length
  ·by_cases e : j < b.length
   ·have f : (j : Int) < (a.length : Int) :=om;have d : (j : Int) < (b.length : Int) :=om;simp only [zS, Z59, Z6o, f, d, Y1 g, Y1 e, Y4 g, Y4 e, Y0 (j := j)];rw [J9 g, J9 e] at c;simp [cmpInts] at c;by_cases i : a[j] < b[j]
    ·grind
    ·grind
   ·left;have f : (j : Int) < (a.length : Int) :=om;have d : ¬ (j : Int) < (b.length : Int) :=om;have h : ¬ (a.length : Int) < (b.length : Int) :=om;have m : (a.length : Int) > (b.length : Int) :=om;simp [Z59, Z6o, f, d, h, m, J3, J1];rw [J9 g, Jy (l := b) om] at c;rw [<- c]; rfl
  ·left;have n : j = a.length :=om;have f : ¬ (j : Int) < (a.length : Int) :=om;simp only [zS, Z59, Z6o, f];rw [Jy (l := a) om] at c;by_cases i : a.length < b.length
   ·have d : (a.length : Int) < (b.length : Int) :=om;simp only [zS, d];rw [J9 om] at c;rw [<- c]; rfl
   ·have d : ¬ (a.length : Int) < (b.length : Int) :=om;have h : ¬ (a.length : Int) > (b.length : Int) :=om;simp only [zS, d, h];rw [Jy om] at c;rw [<- c]; rfl) N 0 om ⟨om, om, rfl⟩
 exact this
theorem Y6y {a b : List Int} (s : a.length <= 1048576) (t : b.length <= 1048576) (r : 1048576 < N) : Z2n N a b = some (cmpInts a b) := by
 have p : ∀ x y : Int, Z4p N x y = some (if x < y then -1 else if x > y then 1 else 0) := by
  intro x y;simp [Z4p, Z68, J1];by_cases i : x < y
  ·simp [i]
  ·by_cases n : x > y <;> simp [i, n]
 have := loop (fun k (j : Nat) => Z19 N k a b a (a.length : Int) (j : Int)) (fun j => j <= a.length /\ j <= b.length /\ cmpInts (a.drop j) (b.drop j) = cmpInts a b) (fun j => a.length - j) (fun o => o = some (cmpInts a b)) (fun k j q => by
  obtain ⟨i, n, c⟩ := q;by_cases g : j < a.length
  ·have h : (j : Int) < (a.length : Int) :=om;by_cases e : j < b.length
   ·have d : ¬ (j : Int) >= (b.length : Int) :=om;simp only [zS, Z19, Z2a, h, d, Y1 g, Y1 e, Y4 g, Y4 e, Y0 (j := j), p];rw [J9 g, J9 e] at c;simp [cmpInts] at c;by_cases f : a[j] < b[j]
    ·left; simp only [f, if_true] at c ⊢; rw [<- c]; rfl
    ·by_cases m : a[j] > b[j]
     ·left; simp only [f, m, if_true, if_false] at c ⊢; rw [<- c]; rfl
     ·grind
   ·left;have d : (j : Int) >= (b.length : Int) :=om;simp only [zS, Z19, Z2a, h, d, Y1 g];rw [J9 g, Jy (l := b) om] at c;rw [<- c]; rfl
  ·left;have h : ¬ (j : Int) < (a.length : Int) :=om;simp only [zS, Z19, Z2a, h];rw [Jy (l := a) om] at c;by_cases f : a.length < b.length
   ·have d : (a.length : Int) < (b.length : Int) :=om;simp only [zS, d];rw [J9 om] at c;rw [<- c]; rfl
   ·have d : ¬ (a.length : Int) < (b.length : Int) :=om;simp only [zS, d];rw [Jy om] at c;rw [<- c]; rfl) N 0 om ⟨om, om, rfl⟩
 exact this
def cmpFacts (a b : Fact) : Int := if a.1 < b.1 then -1 else if a.1 > b.1 then 1 else cmpInts a.2 b.2
theorem Y3d {a b : Fact} (e : a.2.length <= 1048576) (f : b.2.length <= 1048576) (d : 1048576 < N) : Z1c N a b = some (cmpFacts a b) := by
 unfold Z1c cmpFacts;rw [Y43 e f d];by_cases c : a.1 < b.1
 ·simp [c]
 ·grind
theorem Y7u {a b : Fact} (d : a.2.length <= 1048576) (e : b.2.length <= 1048576) (c : 1048576 < N) : Z3y N a b = some (cmpFacts a b) := by
 unfold Z3y cmpFacts Z89;rw [Y6y d e c, bneI];by_cases f : a.1 < b.1
 ·grind
 ·grind
theorem Y44 {a : Type} (d : a) {xs : List a} {p : a -> Bool} : (∃ j, j < xs.length /\ p (xs.getD j d) = true) ↔ xs.any p = true := by
 rw [J1p];constructor
 ·grind
 ·rintro ⟨x, b, h⟩
  obtain ⟨i, hi, rfl⟩ := Jd.1 b;exact ⟨i, hi, gr⟩
theorem Yv {c : Type} {d : c} {xs : List c} {p : c -> Bool} {g : Option Int} (h : (∃ j, j < xs.length /\ p (xs.getD j d) = true /\ (∀ i, i < j -> p (xs.getD i d) = false) /\ g = some (j : Int)) \/ ((∀ i, i < xs.length -> p (xs.getD i d) = false) /\ g = some (-1))) : (g.bind fun r => some (decide (r >= 0))) = some (xs.any p) := by
 rcases h with ⟨j, b, a, _, rfl⟩ | ⟨b, rfl⟩
 ·rw [(Y44 d).1 ⟨j, b, a⟩];simp
 ·have : xs.any p = false := by
   rw [J1c];intro h;obtain ⟨j, e, a⟩ := (Y44 d).2 h;rw [b j e] at a; simp at a
  rw [this]; rfl
theorem Y63 {v : List Int} (e : v.length <= 1048576) (c : 1048576 < N) : Z5e N v = some (validVals v) := by
 unfold Z5e Z0g Z0k Z2t;rw [Yv (d := (0 : Int)) (xs := v) (p := fun x => !decide (0 <= x /\ x <= 9)) (first (n := v.length) (fun j => !decide (0 <= v.getD j 0 /\ v.getD j 0 <= 9)) (fun k i => Z0f N k v (v.length : Int) i) (fun k => by simp [Z0f, Z13]) (fun k j a => ?_) om)]
 ·simp only [J0, validVals];rw [show (v.any fun x => !decide (0 <= x /\ x <= 9)) = !(v.all fun x => decide (0 <= x /\ x <= 9)) from (List.not_all_eq_any_not (l := v) (p := fun x => decide (0 <= x /\ x <= 9))).symm, Bool.not_not]
 ·have b : (j : Int) < (v.length : Int) :=om;simp only [zS, Z0f, Z13, b, Y1 a, Y4 a, Z4v, Yk, Y2 a, Y0 (j := j)];cases decide (0 <= v[j] /\ v[j] <= 9) <;> rfl
theorem Y64 {l : List Rel} {f : Fact} (d : l.length <= 1048576) (c : f.2.length <= 1048576) (b : 1048576 < N) : Z7t N l f = some (fact1 l f) := by
 obtain ⟨r, v⟩ := f;simp only [Z7t, Yk, J0, fact1];rw [Y6];by_cases h : 0 <= r /\ r <= (l.length : Int) - 1
 ·have a : r.toNat < l.length :=om;simp only [zS, h, and_self, Y8 h.1 (show r < l.length by omega), Y18 h.1 (show r < l.length by omega), beqI, Y2 a, Jb];rw [Y63 c b];cases decide ((v.length : Int) = l[r.toNat].2.1) <;> rfl
 ·grind
def factAt (d : Db) (j : Nat) : Fact := d.2.getD j (0, [])
def factsOk (d : Db) : Prop := ∀ j, j < d.2.length -> (fact1 d.1 (factAt d j) && (decide (j = 0) || decide (cmpFacts (factAt d (j - 1)) (factAt d j) < 0))) = true
instance (d : Db) : Decidable (factsOk d) := by unfold factsOk; infer_instance
def validDb (d : Db) : Bool := validRels d.1 && (decide (d.2.length <= 14) && decide (factsOk d))
theorem Yf {d : Db} (h : SmallDb d) (c : 1048576 < N) : Z0 N d = some (validDb d) := by
 have e : ∀ j, j < d.2.length -> (factAt d j).2.length <= 1048576 := fun j a => by unfold factAt; rw [Y2 a]; exact h.vals _ (J4 a)
 unfold Z0 Z7n;rw [Yb (n := d.2.length) (fun j => (validRels d.1 && fact1 d.1 (factAt d j)) && (decide (j = 0) || decide (cmpFacts (factAt d (j - 1)) (factAt d j) < 0))) (some false) (some (validRels d.1 && decide (d.2.length <= 14))) (fun k i => Z2m N k d.1 d.2 i)
  (fun k => by
   simp only [zS, Z2m, Z4l, J10, Y1m h.rels c];cases validRels d.1 with
   | false => rfl
   | true => simp only [J3, Jb, J1m]; exact decide_eq_decide.2 om) (fun k j a => ?_) (by have := h.facts; omega)]
 ·unfold validDb factsOk;cases s : validRels d.1 with
  | true =>
   simp only [Jb];by_cases p : ∀ j, j < d.2.length -> (fact1 d.1 (factAt d j) && (decide (j = 0) || decide (cmpFacts (factAt d (j - 1)) (factAt d j) < 0))) = true
   ·grind
   ·grind
  | false => simp
 ·have g : (j : Int) < (d.2.length : Int) :=om;have r := h.facts;have m : at_ (0, []) d.2 (j : Int) = factAt d j := by unfold factAt; rw [Y4 a, Y2 a]
  simp only [zS, Z2m, Z4l, g, Y1 a, m, Y19 h.rels (e j a) c, Y0 (j := j)];cases validRels d.1 && fact1 d.1 (factAt d j) with
  | false => rfl
  | true =>
   simp only [zS, Jb];by_cases f : j = 0
   ·subst f; simp
   ·have l : (j : Int) > 0 :=om;have b : j - 1 < d.2.length :=om;have o : at_ (0, []) d.2 ((j - 1 : Nat) : Int) = factAt d (j - 1) := by unfold factAt; rw [Y4 b, Y2 b]
    simp only [zS, l, Y9 (show 0 < j by omega) om, Y1 b, o, Y3d (e _ b) (e _ a) c, f, Jt];by_cases q : cmpFacts (factAt d (j - 1)) (factAt d j) < 0
    ·grind
    ·grind
theorem Y1u {d : Db} (h : SmallDb d) (e : 1048576 < N) : Z0d N d = some (validDb d) := by
 have f : ∀ j, j < d.2.length -> (factAt d j).2.length <= 1048576 := fun j a => by unfold factAt; rw [Y2 a]; exact h.vals _ (J4 a)
 unfold Z0d Z7u;rw [Y42 h.rels e, J0];unfold validDb;cases validRels d.1 with
 | false => rfl
 | true =>
  simp [J1];by_cases c : d.2.length <= 14
  ·have : ¬ (d.2.length : Int) > 14 :=om;simp [this, J1, c];rw [Yb (n := d.2.length) (fun j => fact1 d.1 (factAt d j) && (decide (j = 0) || decide (cmpFacts (factAt d (j - 1)) (factAt d j) < 0))) (some false) (some true) (fun k i => Z2o N k d.1 d.2 d.2 (d.2.length : Int) i)
    (fun k => by simp [Z2o, Z4m]) (fun k j a => ?_) om]
   ·unfold factsOk;by_cases q : ∀ j, j < d.2.length -> (fact1 d.1 (factAt d j) && (decide (j = 0) || decide (cmpFacts (factAt d (j - 1)) (factAt d j) < 0))) = true
    ·grind
    ·grind
   ·have l : (j : Int) < (d.2.length : Int) :=om;have o : at_ (0, []) d.2 (j : Int) = factAt d j := by unfold factAt; rw [Y4 a, Y2 a]
    simp only [zS, Z2o, Z4m, l, Y1 a, o, Y64 h.rels (f j a) e, Y0 (j := j)];cases fact1 d.1 (factAt d j) with
    | false => rfl
    | true =>
     simp only [zS, Jb];by_cases g : j = 0
     ·subst g; simp
     ·have m : (j : Int) > 0 :=om;have b : j - 1 < d.2.length :=om;have p : at_ (0, []) d.2 ((j - 1 : Nat) : Int) = factAt d (j - 1) := by unfold factAt; rw [Y4 b, Y2 b]
      simp only [zS, m, Y9 (show 0 < j by omega) om, Y1 b, p, Y7u (f _ b) (f _ a) e, g, Jt];by_cases r : cmpFacts (factAt d (j - 1)) (factAt d j) < 0
      ·grind
      ·grind
  ·grind
theorem Y1r : ∀ (a b c : List Int), cmpInts a b < 0 -> cmpInts b c < 0 -> cmpInts a c < 0
 | [], [], c, h, _ => gr
 | [], _ :: _, [], _, h => by simp [cmpInts] at h
 | [], _ :: _, _ :: _, _, _ => by simp [cmpInts]
 | _ :: _, [], c, h, _ => by simp [cmpInts] at h
 | _ :: _, _ :: _, [], _, h => by simp [cmpInts] at h
 | x :: a, y :: b, z :: c, h1, h2 => by
  simp [cmpInts] at h1 h2 ⊢;by_cases d : x < y
  ·grind
  ·rw [Jn d] at h1;split at h1
   ·omega
   ·have : x = y :=om;subst this;by_cases e : x < z
    ·grind
    ·rw [Jn e] at h2 ⊢;split at h2
     ·omega
     ·rename_i f;rw [Jn f];exact Y1r a b c h1 h2
theorem Y3e {a b c : Fact} (d : cmpFacts a b < 0) (e : cmpFacts b c < 0) : cmpFacts a c < 0 := by
 unfold cmpFacts at d e ⊢;by_cases f : a.1 < b.1
 ·grind
 ·rw [Jn f] at d;split at d
  ·omega
  ·by_cases g : b.1 < c.1
   ·grind
   ·rw [Jn g] at e;split at e
    ·omega
    ·rw [Jn om, Jn om];exact Y1r _ _ _ d e
theorem Z0ee : ∀ (n : Nat) (a b c : List Int), cmpInts a b < 0 -> cmpInts b c < 0 -> a.take n = c.take n -> a.length = b.length -> b.length = c.length -> a.take n = b.take n
 | 0, _, _, _, _, _, _, _, _ => sm
 | n + 1, [], [], _, h, _, _, _, _ => gr
 | n + 1, [], _ :: _, _, _, _, _, h, _ => by simp at h
 | n + 1, _ :: _, [], _, _, _, _, h, _ => by simp at h
 | n + 1, _ :: _, _ :: _, [], _, _, _, _, h => by simp at h
 | n + 1, x :: a, y :: b, z :: c, h1, h2, d, h4, h5 => by
  simp at d ⊢;simp [cmpInts] at h1 h2;obtain ⟨rfl, d⟩ := d;by_cases e : x < y
  ·grind
  ·rw [Jn e] at h1;split at h1
   ·omega
   ·have : x = y :=om;subst this;rw [Jn om, Jn om] at h2;exact ⟨rfl, Z0ee n a b c h1 h2 d (by simpa using h4) (by simpa using h5)⟩
section
variable (S : Nat -> Nat -> Bool)
def blk (n s : Nat) : List Nat := (List.range n).filter (S s)
def isSt (s : Nat) : Bool := (List.range s).all fun k => !S s k
def sts (n : Nat) : List Nat := (List.range n).filter (isSt S)
def B (n : Nat) : List (List Nat) := (sts S n).map (blk S n)
structure Runs (n : Nat) : Prop where
 refl : ∀ i, S i i = true
 symm : ∀ i k, S i k = true -> S k i = true
 trans : ∀ i j k, S i j = true -> S j k = true -> S i k = true
 run : ∀ i j k, i <= j -> j <= k -> k < n -> S i k = true -> S i j = true
variable {S}
theorem Yd {s : Nat} : isSt S s = true ↔ ∀ k, k < s -> S s k = false := by
 unfold isSt;rw [Jg];constructor
 ·grind
 ·grind
theorem Yn (n : Nat) : sts S (n + 1) = sts S n ++ (if isSt S n = true then [n] else []) := by
 unfold sts;rw [J1a, J1k];congr 1;by_cases h : isSt S n = true <;> simp [h]
theorem Y1a (n s : Nat) : blk S (n + 1) s = blk S n s ++ (if S s n = true then [n] else []) := by
 unfold blk;rw [J1a, J1k];congr 1;by_cases h : S s n = true <;> simp [h]
theorem Y1i {n s : Nat} : s ∈ sts S n ↔ s < n /\ isSt S s = true := by
 unfold sts; rw [Jh, Jj]
theorem Y65 {n : Nat} (h : isSt S n = true) : blk S n n = [] := by
 unfold blk;rw [List.filter_eq_nil_iff];intro k a;rw [Yd.1 h k (Jj.1 a)]; simp
theorem Y7n {N n : Nat} (a : Runs S N) (h : isSt S n = true) : B S (n + 1) = B S n ++ [[n]] := by
 unfold B;rw [Yn, Jc h, Jx];congr 1
 ·apply J1g;intro s d;obtain ⟨b, e⟩ := Y1i.1 d;rw [Y1a, Jn, Jk];intro c;have := a.symm _ _ c;rw [Yd.1 h s b] at this;simp at this
 ·simp;rw [Y1a, Y65 h, Jc (a.refl n)]; rfl
theorem Y1n {N : Nat} (a : Runs S N) : ∀ n, 0 < n -> n <= N -> ∃ A t, sts S n = A ++ [t] /\ t < n /\ isSt S t = true /\ ∀ k, t <= k -> k < n -> S t k = true
 | 0, h, _ => om
 | n + 1, _, hN => by
  by_cases h : isSt S n = true
  ·refine ⟨sts S n, n, by rw [Yn, Jc h], om, h, fun k d b => ?_⟩;have : k = n :=om;subst this;exact a.refl _
  ·have j : 0 < n := by
    apply J15;intro r;have : n = 0 :=om;subst this;apply h;rw [Yd]; intro k i; omega
   obtain ⟨A, t, e, d, b, f⟩ := Y1n a n j om;refine ⟨A, t, by rw [Yn, Jn h, Jk]; exact e, om, b, fun k k1 s => ?_⟩;by_cases i : k < n
   ·grind
   ·have : k = n :=om;subst this;obtain ⟨q, u, o⟩ : ∃ q, q < k /\ S k q = true := by
     apply J15;intro g;apply h;rw [Yd];intro q l;rw [J1c];exact fun m => g ⟨q, l, m⟩
    have c := a.symm _ _ o;have p := a.run q (k - 1) k om om om c;exact a.trans _ _ _ (f (k - 1) om om) (a.trans _ _ _ (a.symm _ _ p) c)
theorem Y7o {N n : Nat} (c : Runs S N) (h : ¬ isSt S n = true) (m : n < N) {A : List Nat} {t : Nat} (e : sts S n = A ++ [t]) (f : S t n = true) : B S (n + 1) = A.map (blk S n) ++ [blk S n t ++ [n]] := by
 unfold B;rw [Yn, Jn h, Jk, e, Jx];congr 1
 ·apply J1g;intro s j;rw [Y1a, Jn, Jk];intro g;have b := c.trans _ _ _ g (c.symm _ _ f);have k := Y1i.1 (show s ∈ sts S n by grind);have l := Y1i.1 (show t ∈ sts S n by rw [e]; simp);have i : s ≠ t := by
   have a : (sts S n).Nodup := List.nodup_range.sublist List.filter_sublist;rw [e] at a;exact fun h => (List.nodup_append.1 a).2.2 s j t sm h
  by_cases d : s < t
  ·have := Yd.1 l.2 s d;rw [c.symm _ _ b] at this; simp at this
  ·have := Yd.1 k.2 t om;rw [b] at this; simp at this
 ·simp;rw [Y1a, Jc f]
theorem Y45 {n s : Nat} (j : S s s = true) (l : s < n) : ∃ h r, blk S n s = h :: r /\ S s h = true /\ (h = s ↔ isSt S s = true) := by
 have q : s ∈ blk S n s := Jh.2 ⟨Jj.2 l, j⟩;cases g : blk S n s with
 | nil => grind
 | cons h r =>
  have c : (blk S n s).head? = some h := by rw [g]; rfl
  unfold blk at c;rw [List.head?_filter, List.find?_range_eq_some] at c;obtain ⟨b, m, f⟩ := c;refine ⟨h, r, rfl, b, ?_⟩;constructor
  ·intro e;subst e;rw [Yd];intro k i;have := f k i;simpa using this
  ·intro d;have o : ¬ h < s := fun a => by
    rw [Yd.1 d h a] at b; simp at b
   have p : ¬ s < h := fun a => gr;omega
theorem Y2l {N : Nat} (a : Runs S N) : ∀ n, n <= N -> ((B S n).map List.length).sum = n
 | 0, _ => by simp [B, sts]
 | n + 1, hn => by
  by_cases h : isSt S n = true
  ·rw [Y7n a h, Jx, List.sum_append, Y2l a n om]; simp
  ·have f : 0 < n := by
    apply J15;intro g;have : n = 0 :=om;subst this;apply h;rw [Yd]; intro k l; omega
   obtain ⟨A, t, e, i, j, d⟩ := Y1n a (n + 1) om hn;have c : sts S n = A ++ [t] := by rw [Yn, Jn h, Jk] at e; exact e
   have b := Y2l a n om;rw [Y7o a h om c (d n om om)];unfold B at b;rw [c] at b;simp at b ⊢;omega
end
def keyLen (l : List Rel) (f : Fact) : Int := (l.getD f.1.toNat (⟨#[]⟩, 0, 0)).2.2
def keyOf (l : List Rel) (f : Fact) : List Int := f.2.take (keyLen l f).toNat
def sameK (l : List Rel) (a b : Fact) : Bool := decide (a.1 = b.1) && decide (keyOf l a = keyOf l b)
theorem Y46 {r : Rel} (h : validRel r = true) : 0 <= r.2.2 /\ r.2.2 <= r.2.1 := by
 unfold validRel Z0c at h;by_cases d : r.1.size = 1
 ·have a : ∃ b, byteAt r.1 0 = some b := by
   unfold byteAt;have : (0 : Int).toNat < r.1.size :=om;exact ⟨r.1[(0 : Int).toNat], by rw [Jc om, getElem?_pos]⟩
  obtain ⟨b, a⟩ := a;rw [a] at h;simp only [J0, l1In] at h;by_cases c : 0 <= r.2.2 /\ r.2.2 <= r.2.1
  ·exact c
  ·grind
 ·grind
theorem Yp {l : List Rel} (h : validRels l = true) {j : Nat} (a : j < l.length) : validRel (l.getD j (⟨#[]⟩, 0, 0)) = true := by
 have := (of_decide_eq_true h).1 j a;rw [J8] at this;exact this.1
structure GoodFact (l : List Rel) (f : Fact) : Prop where
 lo : 0 <= f.1
 hi : f.1 < (l.length : Int)
 len : (f.2.length : Int) = (l.getD f.1.toNat (⟨#[]⟩, 0, 0)).2.1
 k0 : 0 <= keyLen l f
 k1 : keyLen l f <= (f.2.length : Int)
theorem Yj {l : List Rel} {f : Fact} (d : validRels l = true) (a : fact1 l f = true) : GoodFact l f := by
 unfold fact1 at a;rw [J8, J8, J6, J6] at a;obtain ⟨⟨c, e⟩, b, g⟩ := a;have := Y46 (Yp d (j := f.1.toNat) om);exact ⟨c, om, b, this.1, by rw [b]; exact this.2⟩
theorem Y66 {a b : List Int} (m : a.length <= 1048576) (l : 1048576 < N) : Z2c N a b = some (decide (a = b)) := by
 unfold Z2c Z71;by_cases f : a.length = b.length
 ·have : ((a.length : Int) != (b.length : Int)) = false := by rw [bneI]; simp; omega
  rw [this, J1, Y41 (n := a.length) (fun j => decide (a[j]? = b[j]?)) (fun k i => Z2b N k a b (a.length : Int) i) (fun k => by simp [Z2b, Z4a]) (fun k j d => ?_) om]
  ·congr 1;exact decide_eq_decide.2 (Y4z f).symm
  ·have g : (j : Int) < (a.length : Int) :=om;have c : j < b.length :=om;simp only [zS, Z2b, Z4a, g, Y1 d, Y1 c, Y4 d, Y4 c, Y0 (j := j), bneI, J1j d, J1j c, J1m];by_cases h : a[j] = b[j] <;> simp [h]
 ·have : ((a.length : Int) != (b.length : Int)) = true := by rw [bneI]; simp; omega
  have e : ¬ a = b := fun h => f (by rw [h]);rw [this, J3, J7 e]
theorem Y12 {lo hi : Int} {n : Nat} (a : 0 <= lo) (b : lo <= hi) (c : hi <= (n : Int)) : subOk lo hi n = true := by
 unfold subOk; rw [J2 a, J2 b, J2 c]; rfl
theorem Y3 {c : Type} {s x : List c} {b : Nat} (a : b <= 1000 := by omega) (h : s.length + x.length <= 140737488355 := by first | omega | (simp only [List.length_singleton, List.length_nil]; omega) | (simp <;> omega)) : appOk s x b = true := by
 refine J2 ?_
 calc (s.length + x.length) * b <= 140737488355 * 1000 := Nat.mul_le_mul h a
  _ <= _ :=om
theorem Y58 {l : List Rel} {f : Fact} (h : l.length <= 1048576) (d : f.2.length <= 1048576) (c : 1048576 < N) (b : validRels l = true) (a : fact1 l f = true) : Z7d N l f = some (keyOf l f) := by
 have g := Yj b a;have e : (at_ (⟨#[]⟩, 0, 0) l f.1).2.2 = keyLen l f := rfl;unfold Z7d;rw [Y19 h d c, b, a, J0, Y8 g.lo g.hi, grd_true];simp [J1, e];rw [Y12 om g.k0 g.k1, grd_true, Y3, grd_true];rfl
theorem Y47 {l : List Rel} {a b : Fact} (d : l.length <= 1048576) (i : a.2.length <= 1048576) (j : b.2.length <= 1048576) (c : 1048576 < N) (e : validRels l = true) (f : fact1 l a = true) (g : fact1 l b = true) : Z2y N l a b = some (sameK l a b) := by
 unfold Z2y sameK;rw [Y19 d i c, Y19 d j c, e, f, g];simp only [zS, Bool.and_self, beqI];by_cases h : a.1 = b.1
 ·rw [J2 h, J3, Y58 d i c e f, Y58 d j c e g, J0, J0,
   Y43 (by unfold keyOf; rw [J17]; omega) (by unfold keyOf; rw [J17]; omega) c, J0, Jb]
  congr 1;exact decide_eq_decide.2 (Y2y _ _)
 ·grind
theorem Y6z {l : List Rel} {a b : Fact} (m : a.2.length <= 1048576) (n : b.2.length <= 1048576) (k : 1048576 < N) (d : validRels l = true) (i : fact1 l a = true) (j : fact1 l b = true) : Z6s N l a b = some (sameK l a b) := by
 have g := Yj d i;have f := Yj d j;have e : (at_ (⟨#[]⟩, 0, 0) l a.1).2.2 = keyLen l a := rfl;unfold Z6s sameK;rw [bneI];by_cases h : a.1 = b.1
 ·have c : keyLen l a = keyLen l b := by unfold keyLen; rw [h]
  rw [J2 h, Ja, J1, Y8 g.lo g.hi, grd_true, e];rw [Y12 om g.k0 g.k1, grd_true, Y12 om g.k0 (by have := f.k1; rw [<- c] at this; exact this), grd_true, Y66 gr k, J0, Jb];unfold keyOf;rw [<- c]
 ·simp_all
def sameD (d : Db) (i k : Nat) : Bool := sameK d.1 (factAt d i) (factAt d k)
structure ValidDb (d : Db) : Prop where
 rels : validRels d.1 = true
 few : d.2.length <= 14
 fact : ∀ j, j < d.2.length -> fact1 d.1 (factAt d j) = true
 lt : ∀ i k, i < k -> k < d.2.length -> cmpFacts (factAt d i) (factAt d k) < 0
theorem Y5 {d : Db} (h : validDb d = true) : ValidDb d := by
 unfold validDb at h;rw [J8, J8, J6, J6] at h;obtain ⟨f, g, c⟩ := h;refine ⟨f, g, fun j b => ?_, ?_⟩
 ·have := c j b;rw [J8] at this;exact this.1
 ·have a : ∀ j, 0 < j -> j < d.2.length -> cmpFacts (factAt d (j - 1)) (factAt d j) < 0 := by
   intro j o b;have := c j b;rw [J8, J21, J6, J6] at this;rcases this.2 with h | h
   ·omega
   ·exact h
  intro i k
  induction k with
  | zero => intro h; omega
  | succ k n =>
   intro l m;have e := a (k + 1) om m;rw [J1v] at e;by_cases h : i = k
   ·grind
   ·exact Y3e (n om om) e
theorem runs {d : Db} (h : ValidDb d) : Runs (sameD d) d.2.length := by
 refine ⟨fun i => by simp [sameD, sameK], fun i k f => ?_, fun i j k n o => ?_, fun i j k y z q f => ?_⟩
 ·simp [sameD, sameK] at f ⊢;exact ⟨f.1.symm, f.2.symm⟩
 ·simp [sameD, sameK] at n o ⊢;exact ⟨n.1.trans o.1, n.2.trans o.2⟩
 ·by_cases u : i = j
  ·subst u; simp [sameD, sameK]
  ·by_cases C : j = k
   ·grind
   ·have l := h.lt i j om om;have m := h.lt j k om q;have v := Yj h.rels (h.fact i om);have w := Yj h.rels (h.fact j om);have x := Yj h.rels (h.fact k q);simp [sameD, sameK] at f ⊢;obtain ⟨F, p⟩ := f;generalize factAt d i = a at *;generalize factAt d j = b at *;generalize factAt d k = c at *;have e : a.1 = b.1 := by
     unfold cmpFacts at l m;by_cases E : a.1 < b.1
     ·grind
     ·grind
    have g : b.1 = c.1 :=om;have s : cmpInts a.2 b.2 < 0 := by unfold cmpFacts at l; rw [Jn om, Jn om] at l; exact l
    have t : cmpInts b.2 c.2 < 0 := by unfold cmpFacts at m; rw [Jn om, Jn om] at m; exact m
    have k1 : keyLen d.1 a = keyLen d.1 b := by unfold keyLen; rw [e]
    have A : keyLen d.1 b = keyLen d.1 c := by unfold keyLen; rw [g]
    have r := v.len;have B := w.len;have D := x.len;rw [e] at r;rw [g] at r B;unfold keyOf at p ⊢;rw [<- A, <- k1] at p;rw [<- k1];exact ⟨e, Z0ee _ _ _ _ s t p om om⟩
abbrev Ctx := List Int × Int × Int
structure COk (c : Ctx) : Prop where
 len : c.1.length <= 1048576
 lo : 0 <= c.2.1
 hi : c.2.1 <= c.1.length
def Dr {a : Type} (c : Ctx) (o : Option (Ctx × a)) (Q : a -> Prop) : Prop := ∃ (p : Int × Int) (x : a), o = some ((c.1, p), x) /\ COk (c.1, p) /\ Q x
theorem Dr.bind {a d : Type} {c : Ctx} {o : Option (Ctx × a)} {Q : a -> Prop} {k : Ctx × a -> Option (Ctx × d)} {b : d -> Prop} (h : Dr c o Q) (i : ∀ p x, COk (c.1, p) -> Q x -> Dr (c.1, p) (k ((c.1, p), x)) b) : Dr c (o.bind k) b := by
 obtain ⟨p, x, e, f, g⟩ := h;rw [e, J0];exact i p x f g
theorem Dr.ret {a : Type} {c : Ctx} {p : Int × Int} {x : a} {Q : a -> Prop} (h : COk (c.1, p)) (b : Q x) : Dr c (some ((c.1, p), x)) Q := ⟨p, x, rfl, h, b⟩
theorem Dr.mono {b : Type} {c : Ctx} {o : Option (Ctx × b)} {Q a : b -> Prop} (h : Dr c o Q) (g : ∀ x, Q x -> a x) : Dr c o a := by
 obtain ⟨p, x, d, e, f⟩ := h;exact ⟨p, x, d, e, g x f⟩
theorem Y67 (x : Int) : 0 <= bits .and .i64 x 255 /\ bits .and .i64 x 255 <= 255 := by
 have h : (BitVec.ofInt 64 x &&& BitVec.ofInt 64 255).toNat <= 255 := by
  rw [BitVec.toNat_and];exact Ji Nat.and_le_right (by decide)
 show 0 <= w64 ((BitVec.ofInt 64 x &&& BitVec.ofInt 64 255).toNat : Int) /\ w64 ((BitVec.ofInt 64 x &&& BitVec.ofInt 64 255).toNat : Int) <= 255;rw [Y6];omega
theorem Y8o {code : List Int} (d : code.length <= 1048576) (g : 1048576 < N) : ∃ c, Z8i N code = some c /\ COk c := by
 unfold Z8i Z0bs;have := loop (fun k (s : Int × Nat) => Z8v N k code s.1 (s.2 : Int)) (fun s => s.2 <= code.length) (fun s => code.length - s.2) (fun o => ∃ c, o = some c /\ COk c) (fun k s f => by
  obtain ⟨h, j⟩ := s;simp only at f ⊢;simp only [Z8v, Z0ai];by_cases e : j < code.length
  ·by_cases b : (j : Int) < 4000
   ·right;refine ⟨(bits .and .i64 (w64 ((w64 ((w64 (h * 131)) + (w64 (at_ 0 code j)))) + 7)) 1073741823, j + 1), e, om, ?_⟩;have a : (j : Int) < (code.length : Int) :=om;simp only [zS, a, b, Y1 e, Y0 (j := j)]
   ·left;have a : (j : Int) < (code.length : Int) :=om;simp only [zS, a, b];exact ⟨_, rfl, d, Int.le_refl 0, sm⟩
  ·left;have a : ¬ (j : Int) < (code.length : Int) :=om;simp only [zS, a];exact ⟨_, rfl, d, Int.le_refl 0, sm⟩) N (w64 (10101 + (code.length : Int)), 0) (by simp; omega) sm
 exact this
theorem Y1v {c : Ctx} (h : COk c) : Dr c (Z3j N c) (fun b => 0 <= b /\ b <= 255) := by
 obtain ⟨l, p, q⟩ := c;obtain ⟨a, d, f⟩ := h;simp only at a d f;simp [Z3j];by_cases e : p < (l.length : Int)
 ·simp only [zS, e, Y8 d e];have : w64 (p + 1) = p + 1 := Y6;refine Dr.ret (c := (l, p, q)) ⟨a, ?_, ?_⟩ (Y67 _)
  ·grind
  ·grind
 ·simp [e, J1];exact Dr.ret (c := (l, p, q)) ⟨a, d, f⟩ (Y67 _)
theorem Y59 {x n : Int} (b : 0 <= x) (a : 0 < n) : 0 <= x.tmod n /\ x.tmod n < n := ⟨Int.tmod_nonneg n b, Int.tmod_lt_of_pos x a⟩
theorem Y7 {c : Ctx} {n : Int} (h : COk c) : Dr c (Z1 N c n) (fun b => 0 <= b /\ (0 < n -> b < n) /\ (n <= 0 -> b = 0)) := by
 unfold Z1;by_cases o : n <= 0
 ·simp only [zS, o];exact ⟨c.2, 0, rfl, h, Int.le_refl 0, fun f => absurd f om, fun _ => rfl⟩
 ·simp only [zS, o];by_cases f : n <= 256
  ·simp only [zS, f];refine (Y1v h).bind fun p x i q => ?_;simp only [Y2x (show n ≠ 0 by omega)];have := Y59 q.1 (show 0 < n by omega);exact Dr.ret (c := (c.1, p)) i ⟨this.1, fun _ => this.2, fun g => g.elim⟩
  ·simp only [zS, f];refine (Y1v h).bind fun p x i q => ?_;refine (Y1v (c := (c.1, p)) i).bind fun u a j r => ?_;refine (Y1v (c := (c.1, u)) j).bind fun v d k s => ?_;refine (Y1v (c := (c.1, v)) k).bind fun w m l t => ?_;simp only [Y2x (show n ≠ 0 by omega)];have e : w64 ((w64 ((w64 ((w64 (x * 16777216)) + (w64 (a * 65536)))) + (w64 (d * 256)))) + m) = x * 16777216 + a * 65536 + d * 256 + m := by
    rw [Y6 (x := x * 16777216), Y6 (x := a * 65536), Y6 (x := d * 256), Y6 (x := x * 16777216 + a * 65536), Y6 (x := x * 16777216 + a * 65536 + d * 256), Y6]
   have := Y59 (x := x * 16777216 + a * 65536 + d * 256 + m) om (show 0 < n by omega);rw [e];exact Dr.ret (c := (c.1, w)) l ⟨this.1, fun _ => this.2, fun g => g.elim⟩
theorem Y1j {c : Ctx} {l : List Int} (h : COk c) (d : 0 < l.length) : Dr c (Z0y N c l) (fun x => x ∈ l) := by
 refine (Y7 h).bind fun p x b a => ?_;have hi := a.2.1 om;simp only [Y8 a.1 hi, grd_true, Y18 a.1 hi];exact Dr.ret (c := (c.1, p)) b (J4 _)
theorem Y7v {c : Ctx} {l : List ByteArray} (h : COk c) (d : 0 < l.length) : Dr c (Z7o N c l) (fun x => x ∈ l) := by
 refine (Y7 h).bind fun p x b a => ?_;have hi := a.2.1 om;simp only [Y8 a.1 hi, grd_true, Y18 a.1 hi];exact Dr.ret (c := (c.1, p)) b (J4 _)
def rels4 (x y : Int) : List Rel := [(⟨#[114]⟩, 2, 1), (⟨#[115]⟩, 2, 1), (⟨#[116]⟩, 2, x), (⟨#[117]⟩, 3, y)]
def RelsD (l : List Rel) : Prop := l.length = 4 /\ (∀ r ∈ l, 2 <= r.2.1 /\ r.2.1 <= 3) /\ ∃ x y : Int, (x = 0 \/ x = 1 \/ x = 2) /\ (y = 1 \/ y = 2) /\ l = rels4 x y
theorem Y8d {c : Ctx} (h : COk c) : Dr c (Z7k N c) RelsD := by
 refine (Y1j h (by decide)).bind fun p x d i => ?_;refine (Y7 (c := (c.1, p)) d).bind fun e f b a => ?_;refine Dr.ret (c := (c.1, e)) b ⟨rfl, fun r g => ?_, x, w64 (1 + f), ?_, ?_, rfl⟩
 ·grind
 ·grind
 ·have := a.1;have := a.2.1 (by decide);rw [Y6];omega
theorem Y8p {l : List Rel} (c : RelsD l) {x : Int} (a : 0 <= x) (b : x < l.length) : inb x l = true /\ 2 <= (at_ ((⟨#[]⟩, (0, 0)) : Rel) l x).2.1 /\ (at_ ((⟨#[]⟩, (0, 0)) : Rel) l x).2.1 <= 3 := by
 refine ⟨Y8 a b, ?_⟩;rw [Y18 a b];exact c.2.1 _ (J4 _)
def FactD (f : Fact) : Prop := 2 <= f.2.length /\ f.2.length <= 3
theorem Y68 {c : Ctx} {l : List Rel} {v : Int} (h : COk c) (d : RelsD l) (z : 1048576 < N) : Dr c (Z7l N c l v) FactD := by
 refine (Y7 h).bind fun p x j g => ?_;have hi := g.2.1 (by rw [d.1]; decide);obtain ⟨i, u, w⟩ := Y8p d g.1 hi;have := loop (fun k (s : (Int × Int) × List Int) => Z80 N k c.1 s.1.1 s.1.2 l v 0 [] x s.2) (fun s => COk (c.1, s.1) /\ (s.2.length : Int) <= (at_ ((⟨#[]⟩, (0, 0)) : Rel) l x).2.1) (fun s => 4 - s.2.length) (fun o => Dr c o FactD) (fun k s f => by
  obtain ⟨q, f2⟩ := s;simp only at f ⊢;obtain ⟨a, r⟩ := f;simp only [Z80, Z0a7, i, grd_true];by_cases b : (f2.length : Int) < (at_ ((⟨#[]⟩, (0, 0)) : Rel) l x).2.1
  ·right;simp only [zS, b];obtain ⟨t, y, e, m, A⟩ := Y7 (N := N) (c := (c.1, q.1, q.2)) (n := v) a;refine ⟨(t, f2 ++ [y]), ⟨m, by simp; omega⟩, by simp; omega, ?_⟩;rw [e, J0];simp only;rw [Y3, grd_true]
  ·left;simp [b, J1];exact Dr.ret (c := c) (p := q) a ⟨by simp only; omega, by simp only; omega⟩) N (p, []) (by simp; omega) ⟨j, by simp; omega⟩
 exact this
structure DbD (m : Nat) (d : Db) : Prop where
 rels : d.1.length <= 1000
 facts : d.2.length <= m
 vals : ∀ f ∈ d.2, f.2.length <= 1000
theorem DbD.small {m : Nat} {d : Db} (h : DbD m d) (b : m <= 1000) : SmallDb d := ⟨Ji h.rels om, Ji h.facts om, fun f a => Ji (h.vals f a) om⟩
theorem Y8e {N m : Nat} {d : Db} (h : DbD m d) (g : m <= 1000) (e : 1048576 < N) : Z7m N d = some d := by
 have i := h.rels;have f := h.facts;unfold Z7m Z0bd;rw [Y3, grd_true];have := loop (fun k (s : Nat) => Z81 N k d.1 d.2 [] [] d.1 (d.2.take s) (s : Int)) (fun s => s <= d.2.length) (fun s => d.2.length - s) (fun o => o = some d) (fun k j l => by
  simp only [Z81, Z0a8];by_cases a : j < d.2.length
  ·right;refine ⟨j + 1, a, om, ?_⟩;have b : (j : Int) < (d.2.length : Int) :=om;have c := h.vals _ (J4 a);simp only [zS, b, Y1 a, Y4 a];rw [Y3, grd_true, Y3, grd_true, Y0, J5 a]
  ·grind) N 0 om om
 simpa using this
theorem Y8f {N m : Nat} {d : Db} {f : Fact} (h : DbD m d) (p : m <= 1000) (l : f.2.length <= 1000) (c : 1048576 < N) : ∃ i, Z6m N d f = some i := by
 have n := h.facts;have := loop (fun k (s : Nat) => Z6c N k d.1 d.2 f.1 f.2 (s : Int)) (fun s => s <= d.2.length) (fun s => d.2.length - s) (fun o => ∃ i, o = some i) (fun k j q => by
  simp only [Z6c, Z90];by_cases a : j < d.2.length
  ·have b : (j : Int) < (d.2.length : Int) :=om;have e := h.vals _ (J4 a);simp only [zS, b, Y1 a, Y4 a];rw [Y3d om gr c, J0];cases g : (cmpFacts d.2[j] (f.1, f.2) == 0) with
   | true => left; exact ⟨_, rfl⟩
   | false =>
    right;refine ⟨j + 1, a, om, ?_⟩;rw [J1, Y0]
  ·grind) N 0 om om
 exact this
theorem Y7w {N m : Nat} {d : Db} {f : Fact} (h : DbD m d) (c : m <= 1000) (e : f.2.length <= 1000) (a : 1048576 < N) : ∃ b, Z3x N d f = some b := by
 unfold Z3x;rw [Yf (h.small c) a, J0];cases validDb d with
 | false => exact ⟨_, rfl⟩
 | true =>
  obtain ⟨i, hi⟩ := Y8f h c e a;rw [J3, hi, J0];exact ⟨_, rfl⟩
theorem DbD.put {m : Nat} {d : Db} (h : DbD m d) {f : Fact} (b : f.2.length <= 1000) (j : Nat) : DbD (m + 1) (d.1, d.2.take j ++ ([f] ++ d.2.drop j)) := by
 refine ⟨h.rels, ?_, ?_⟩
 ·have := h.facts;simp;omega
 ·intro g a;simp at a;rcases a with a | a | a
  ·exact h.vals g (J1r a)
  ·grind
  ·exact h.vals g (List.mem_of_mem_drop a)
theorem Y48 {N m : Nat} {d : Db} {f : Fact} (h : DbD m d) (x : m <= 900) (l : f.2.length <= 1000) (e : 1048576 < N) : ∃ a b, Z42 N d f = some (a, b) /\ a.1 = d.1 /\ DbD (m + 1) a := by
 have w := h.facts;have q : DbD (m + 1) d := ⟨h.rels, Ji h.facts om, h.vals⟩;unfold Z42 Z9v;rw [Y8e h om e, J0, Yf (h.small om) e, J0];cases validDb d with
 | false => simp_all
 | true =>
  rw [Ja, J1, Y19 (Ji h.rels om) om e, J0];cases (validRels d.1 && fact1 d.1 f) with
  | false => exact ⟨d, false, rfl, rfl, q⟩
  | true =>
   obtain ⟨b, p⟩ := Y7w h om l e;rw [Ja, J1, p, J0];cases b with
   | true => grind
   | false =>
    rw [J1];cases ((d.2.length : Int) == 14) with
    | true => simp_all
    | false =>
     rw [J1];have c : ∀ j : Nat, j <= d.2.length -> (grd (appOk [] f.2 8) <| grd (subOk (j : Int) (d.2.length : Int) d.2.length) <| grd (appOk [(f.1, f.2)] (d.2.drop ((j : Int)).toNat) 32) <| grd (subOk 0 (j : Int) d.2.length) <| grd (appOk [] (d.2.take ((j : Int)).toNat) 32) <| grd (appOk (d.2.take ((j : Int)).toNat) ([(f.1, f.2)] ++ (d.2.drop ((j : Int)).toNat)) 32) <| some ((d.1, ((d.2.take ((j : Int)).toNat) ++ ([(f.1, f.2)] ++ (d.2.drop ((j : Int)).toNat)))), true)) = some ((d.1, d.2.take j ++ ([f] ++ d.2.drop j)), true) := by
      intro j g;have r : subOk (j : Int) (d.2.length : Int) d.2.length = true := by simp [subOk]; omega
      have t : subOk 0 (j : Int) d.2.length = true := by simp [subOk]; omega
      rw [r, t, Jm, Y3, Y3, Y3, Y3];rfl
     have := loop (fun k (s : Nat) => Z5p N k f.1 f.2 [] [] d.1 d.2 (s : Int)) (fun s => s <= d.2.length) (fun s => d.2.length - s) (fun o => ∃ a b, o = some (a, b) /\ a.1 = d.1 /\ DbD (m + 1) a) (fun k j n => by
      simp only [Z5p, Z8j];by_cases g : j < d.2.length
      ·have i : (j : Int) < (d.2.length : Int) :=om;have u := h.vals _ (J4 g);simp only [zS, i, Y1 g, Y4 g];rw [Y3d om (by simp only; omega) e, J0];cases v : decide (cmpFacts d.2[j] (f.1, f.2) < 0) with
       | true =>
        right;refine ⟨j + 1, g, om, ?_⟩;rw [J3, Y0]
       | false =>
        left;rw [J1, c j n];exact ⟨_, _, rfl, rfl, h.put l j⟩
      ·left;have i : ¬ (j : Int) < (d.2.length : Int) :=om;simp only [zS, i];rw [c j n];exact ⟨_, _, rfl, rfl, h.put l j⟩) N 0 om om
     exact this
theorem FactD.le {f : Fact} (h : FactD f) : f.2.length <= 1000 := Ji h.2 om
def DbDraw (d : Db) : Prop := RelsD d.1 /\ DbD 20 d
theorem Y7x {c : Ctx} {l : List Rel} {v : Int} (r : RelsD l) (m : 1048576 < N) {K : Nat} {p : Int × Int} {a : List Fact} {n : Nat} (D : COk (c.1, p)) (A : DbD (20 - n) (l, a)) (C : n <= 20) (H : n < K) :
  Dr c (Z82 N K c.1 p.1 p.2 [] [] l a v (n : Int)) DbDraw := by
 have := loop (fun k (s : (Int × Int) × List Fact × Nat) => Z82 N k c.1 s.1.1 s.1.2 [] [] l s.2.1 v (s.2.2 : Int)) (fun s => COk (c.1, s.1) /\ s.2.2 <= 20 /\ DbD (20 - s.2.2) (l, s.2.1)) (fun s => s.2.2) (fun o => Dr c o DbDraw) (fun k s t => by
  obtain ⟨q, a, n⟩ := s;simp only at t ⊢;obtain ⟨h, G, i⟩ := t;simp only [Z82, Z0b1];by_cases z : (n : Int) > 0
  ·right;obtain ⟨E, f, x, g, B⟩ := Y68 (N := N) (c := (c.1, q.1, q.2)) (v := v) h r m;obtain ⟨u, b, y, j, d⟩ := Y48 i om B.le m;obtain ⟨F, w⟩ := u;simp only at j;subst j;refine ⟨(E, w, n - 1), ⟨g, by simp only; omega, ⟨d.rels, Ji d.facts (by simp only; omega), d.vals⟩⟩, by simp only; omega, ?_⟩;simp only [zS, z, x, y];rw [Y9 om om]
  ·left;have e : n = 0 :=om;subst e;exact Dr.ret (c := c) (p := q) h ⟨r, i⟩) K (p, a, n) gr ⟨D, C, A⟩
 exact this
theorem dbOk {c : Ctx} (h : COk c) (d : 1048576 < N) : Dr c (Z0ac N c) DbDraw := by
 refine (Y8d h).bind fun p l w g => ?_;refine (Y1j (c := (c.1, p)) w (by decide)).bind fun x v i E => ?_;refine (Y7 (c := (c.1, x)) i).bind fun y n j m => ?_;have C := m.1;have D := m.2.1 (by decide);have t : DbD 0 ((l, []) : Db) := ⟨by simp only; rw [g.1]; decide, sm, sm⟩;obtain ⟨M, rfl⟩ : ∃ M, N = M + 1 := ⟨N - 1, om⟩;simp [Z0aj, Z0b2];have e : w64 (2 + n) = ((n.toNat + 2 : Nat) : Int) := by rw [Y6]; omega
 rw [e];have r : ((n.toNat + 2 : Nat) : Int) > 0 :=om;simp only [zS, r];refine (Y68 (c := (c.1, y)) j g d).bind fun z f k u => ?_;obtain ⟨o, b, q, s, a⟩ := Y48 t om u.le d;obtain ⟨A, B⟩ := o;subst s;simp only [q, J0];rw [Y9 om om];exact Y7x (c := (c.1, z)) g d k ⟨a.rels, Ji a.facts om, a.vals⟩ om om
def toI (l : List Nat) : List Int := l.map fun (n : Nat) => (n : Int)
theorem Y2z (l : List Nat) : (toI l).length = l.length := by simp [toI]
theorem Y30 (a b : List Nat) : toI (a ++ b) = toI a ++ toI b := by simp [toI]
theorem Y5o (S : Nat -> Nat -> Bool) (n s : Nat) : (blk S n s).length <= n := by
 exact Ji (Jo _ _) (Nat.le_of_eq Js)
theorem Y31 (S : Nat -> Nat -> Bool) (n : Nat) : (sts S n).length <= n := by
 exact Ji (Jo _ _) (Nat.le_of_eq Js)
theorem Y8q (S : Nat -> Nat -> Bool) (n : Nat) : (B S n).length <= n := by
 unfold B; rw [Jr]; exact Y31 S n
theorem Yc {d : Db} {k : Nat} (a : k < d.2.length) : at_ (0, []) d.2 (k : Int) = factAt d k := by unfold factAt; rw [Y4 a, Y2 a]
theorem Y13 {d : Db} (h : SmallDb d) {k : Nat} (a : k < d.2.length) : (factAt d k).2.length <= 1048576 := by unfold factAt; rw [Y2 a]; exact h.vals _ (J4 a)
theorem Y50 {d : Db} (h : SmallDb d) (e : validDb d = true) (m : 1048576 < N) {i : Nat} (hi : i < d.2.length) : Z8e N d (i : Int) = some (toI (blk (sameD d) d.2.length i)) := by
 have g := Y5 e;have t := g.few;have := loop (fun k (s : List Int × Nat) => Z65 N k (i : Int) d.1 d.2 s.1 (s.2 : Int)) (fun s => s.2 <= d.2.length /\ s.1 = toI (blk (sameD d) s.2 i)) (fun s => d.2.length - s.2) (fun o => o = some (toI (blk (sameD d) d.2.length i))) (fun k s f => by
  obtain ⟨out, j⟩ := s;obtain ⟨r, b⟩ := f;simp only at r b ⊢;by_cases c : j < d.2.length
  ·right;have l : (j : Int) < (d.2.length : Int) :=om;have p : (0 : Int) <= (i : Int) /\ (i : Int) <= (d.2.length : Int) - 1 :=om;have q : validDb (d.1, d.2) = true := e;have n : out.length <= 14 := by rw [b, Y2z]; have := Y5o (sameD d) j i; omega
   refine ⟨(toI (blk (sameD d) (j + 1) i), j + 1), ⟨c, rfl⟩, by simp only; omega, ?_⟩;simp only [zS, Z65, Z7z, l, Yf (d := (d.1, d.2)) h m, q, l1In, Y6 (show -9223372036854775808 <= (d.2.length : Int) - 1 by omega) om, p, and_self, Y1 hi, Y1 c, Yc hi, Yc c, Y47 h.rels (Y13 h hi) (Y13 h c) m g.rels (g.fact i hi) (g.fact j c), Y0 (j := j)];rw [Y1a];cases f : sameD d i j with
   | true =>
    have a : sameK d.1 (factAt d i) (factAt d j) = true := f;rw [a, J3, Y3, grd_true, Jc rfl, Y30, b]; rfl
   | false =>
    have a : sameK d.1 (factAt d i) (factAt d j) = false := f;rw [a, J1, Jn sm, Jk, b]
  ·left;have : j = d.2.length :=om;subst this;have l : ¬ (d.2.length : Int) < (d.2.length : Int) :=om;simp [Z65, Z7z, l, J1, b]) N ([], 0) (by simp only; omega) ⟨sm, by simp [blk, toI]⟩
 exact this
def blocksOf (d : Db) : List (List Int) := if validDb d then (B (sameD d) d.2.length).map toI else []
theorem Y32 {d : Db} (h : SmallDb d) (f : 1048576 < N) : Z4n N d = some (blocksOf d) := by
 have z := h.facts;unfold Z4n Z0bk blocksOf;cases a : validDb d with
 | false =>
  simp;obtain ⟨n, rfl⟩ : ∃ n, N = n + 1 := ⟨N - 1, om⟩;simp only [zS, Z5h, Z6v, Yf (d := (d.1, d.2)) h f, show validDb (d.1, d.2) = false from a];cases decide ((0 : Int) < (d.2.length : Int)) <;> rfl
 | true =>
  simp;have m := Y5 a;have E := m.few;have y := runs m;have := loop (fun k (s : List (List Int) × Nat) => Z5h N k d.1 d.2 s.1 (s.2 : Int)) (fun s => s.2 <= d.2.length /\ s.1 = (((sts (sameD d) s.2).map (blk (sameD d) d.2.length)).map toI)) (fun s => d.2.length - s.2) (fun o => o = some ((B (sameD d) d.2.length).map toI)) (fun k s C => by
   obtain ⟨out, j⟩ := s;obtain ⟨x, c⟩ := C;simp only at x c ⊢;by_cases g : j < d.2.length
   ·right;have e : (j : Int) < (d.2.length : Int) :=om;have u : validDb (d.1, d.2) = true := a;have l : out.length <= 14 := by rw [c, Jr, Jr]; have := Y31 (sameD d) j; omega
    obtain ⟨q, r, p, D, t⟩ := Y45 (y.refl j) g;have i : toI (blk (sameD d) d.2.length j) = (q : Int) :: toI r := by rw [p]; rfl
    have v : inb 0 (toI (blk (sameD d) d.2.length j)) = true := by rw [i]; exact Y1 (j := 0) sm
    have w : at_ 0 (toI (blk (sameD d) d.2.length j)) 0 = (q : Int) := by rw [i]; exact Y4 (j := 0) sm
    refine ⟨((((sts (sameD d) (j + 1)).map (blk (sameD d) d.2.length)).map toI), j + 1), ⟨g, rfl⟩, by simp only; omega, ?_⟩;simp only [zS, Z5h, Z6v, e, Yf (d := (d.1, d.2)) h f, u, Y50 (d := (d.1, d.2)) h a f (show j < (d.1, d.2).2.length from g), Y0 (j := j)];rw [show sameD (d.1, d.2) = sameD d from rfl, v, grd_true, w, beqI, Yn];by_cases b : isSt (sameD d) j = true
    ·have A := t.2 b;rw [Jc b, J2 (by rw [A]), J3, Y3, grd_true, Jx, Jx, <- c]; rfl
    ·grind
   ·left;have : j = d.2.length :=om;subst this;have e : ¬ (d.2.length : Int) < (d.2.length : Int) :=om;simp only [zS, Z5h, Z6v, e, c];rfl) N ([], 0) (by simp only; omega) ⟨sm, by simp [sts]⟩
  exact this
def sizes (d : Db) : List Nat := (blocksOf d).map List.length
theorem Y2h {d : Db} (a : validDb d = true) : (sizes d).sum = d.2.length /\ (∀ x ∈ sizes d, 1 <= x) /\ (sizes d).length <= 14 /\ (blocksOf d).length = (sizes d).length := by
 have g := Y5 a;have c := runs g;have e : sizes d = (B (sameD d) d.2.length).map List.length := by
  unfold sizes blocksOf;rw [Jc a, List.map_map];apply J1g;intro x _;exact Y2z x
 refine ⟨by rw [e]; exact Y2l c _ (J16 _), ?_, ?_, by unfold sizes; simp⟩
 ·rw [e];intro x j;obtain ⟨b, f, rfl⟩ := Je.1 j;unfold B at f;obtain ⟨s, i, rfl⟩ := Je.1 f;obtain ⟨q, r, h, _⟩ := Y45 (c.refl s) (Y1i.1 i).1;rw [h]; simp
 ·rw [e, Jr];have := Y8q (sameD d) d.2.length;have := g.few;omega
theorem Y5a : ∀ {a : List Nat} {x : Nat}, x ∈ a -> x <= a.sum
 | y :: a, x, h => by
  rw [List.sum_cons];rcases Jf.1 h with rfl | h
  ·omega
  ·have := Y5a h; omega
def one (p : Int -> Bool) (x : Int) : Int := if p x then 1 else 0
theorem Y1w {d : Db} (a : validDb d = true) : ∀ b ∈ blocksOf d, b ≠ [] /\ b.length <= 14 := by
 intro b f;obtain ⟨k, g, l, m⟩ := Y2h a;have e : b.length ∈ sizes d := Je.2 ⟨_, f, rfl⟩;have c := g _ e;have i := Y5a e;have j := (Y5 a).few;exact ⟨fun h => by rw [h] at c; simp at c, om⟩
theorem Y33 {d : Db} (e : validDb d = true) : ∀ b ∈ blocksOf d, ∀ x ∈ b, 0 <= x /\ x < (d.2.length : Int) := by
 intro b a x g;unfold blocksOf at a;rw [Jc e] at a;obtain ⟨h, c, rfl⟩ := Je.1 a;obtain ⟨s, i, rfl⟩ := Je.1 c;obtain ⟨k, f, rfl⟩ := Je.1 g;have := Jj.1 (Jh.1 f).1;omega
theorem Y1k {c : Ctx} {n : Int} (h : COk c) : Dr c (Z2h N c n) (fun _ => True) := by
 refine (Y7 h).bind fun p x a b => ?_;exact Dr.ret (c := (c.1, p)) a trivial
theorem Y49 {a : Type} {s x : List a} {b : Nat} (h : (s.length + x.length) * b <= 140737488355328) : appOk s x b = true := J2 h
theorem Yl {b d : Type} {piece : b -> List d} {n : Nat} : ∀ {a : List b}, (∀ x ∈ a, (piece x).length <= n) -> (a.flatMap piece).length <= a.length * n
 | [], _ => sm
 | x :: a, h => by
  have e := h x sm;have f := Yl (a := a) fun y c => h y (by simp [c]);rw [J1n, J1b, List.length_cons, Nat.add_mul]; omega
theorem Y1o : ∀ {a b : List Int}, a.Pairwise (· < ·) -> b.Pairwise (· < ·) -> (∀ x, x ∈ a ↔ x ∈ b) -> a = b
 | [], [], _, _, _ => rfl
 | [], y :: b, _, _, h => by have := (h y).2 sm; simp at this
 | x :: a, [], _, _, h => by have := (h x).1 sm; simp at this
 | x :: a, y :: b, ha, hb, h => by
  rw [Ju] at ha hb;have e : x = y := by
   have c := (h x).1 sm;have f := (h y).2 sm;rcases Jf.1 c with c | c
   ·exact c
   ·grind
  subst e;rw [Y1o ha.2 hb.2 fun z => ?_];have d := h z;simp at d;constructor
  ·grind
  ·grind
def uniq (s : List Int) : List Int := ((List.range s.length).filter fun j => decide (j = 0 \/ s.toArray[j]! ≠ s.toArray[j - 1]!)).map fun j => s.toArray[j]!
theorem Y10 {s : List Int} {j : Nat} (h : j < s.length) : s.toArray[j]! = s[j] :=gr
theorem Y51 {s : List Int} (h : s.Pairwise (· <= ·)) : (uniq s).Pairwise (· < ·) := by
 unfold uniq;rw [J11];refine (J1e _ Jz).imp_of_mem fun {i j} hi c d => ?_;obtain ⟨a, b⟩ := Jh.1 c;have a := Jj.1 a;rw [J6, Y10 a, Y10 (show j - 1 < s.length by omega)] at b;rw [Y10 (show i < s.length by omega), Y10 a];have f := Jl.1 h (j - 1) j om a om;have g : s[i] <= s[j - 1] := by
  by_cases e : i = j - 1
  ·grind
  ·exact Jl.1 h i (j - 1) om om om
 rcases b with b | b <;> omega
theorem Y70 {s : List Int} (x : Int) : x ∈ uniq s ↔ x ∈ s := by
 unfold uniq;rw [Je];constructor
 ·grind
 ·intro c;obtain ⟨j, a, rfl⟩ := Jd.1 c;have b : ∀ j (a : j < s.length), ∃ i, i ∈ ((List.range s.length).filter fun j => decide (j = 0 \/ s.toArray[j]! ≠ s.toArray[j - 1]!)) /\ s.toArray[i]! = s[j] := by
   intro j
   induction j with
   | zero => intro a; exact ⟨0, Jh.2 ⟨Jj.2 a, sm⟩, Y10 a⟩
   | succ j d =>
    intro a;by_cases e : s[j + 1] = s[j]
    ·grind
    ·refine ⟨j + 1, Jh.2 ⟨Jj.2 a, ?_⟩, Y10 a⟩;rw [J6, Y10 a, J1v, Y10 (show j < s.length by omega)];exact .inr e
  exact b j a
def setOf (s : List Int) : List Int := uniq (s.mergeSort fun a b => decide (a <= b))
theorem Y4a (s : List Int) : (setOf s).Pairwise (· < ·) := by
 refine Y51 ?_;have := List.pairwise_mergeSort (le := fun a b : Int => decide (a <= b)) (fun a b c d e => by simp at *; omega) (fun a b => gr) s;exact this.imp fun h => by simpa using h
theorem Y3j {s : List Int} (x : Int) : x ∈ setOf s ↔ x ∈ s := by unfold setOf; rw [Y70, List.mem_mergeSort]
theorem Y69 (s : List Int) : (setOf s).length <= s.length := by
 unfold setOf uniq;rw [Jr, List.length_mergeSort];have := Jo (fun j => decide (j = 0 \/ (s.mergeSort fun a b => decide (a <= b)).toArray[j]! ≠ (s.mergeSort fun a b => decide (a <= b)).toArray[j - 1]!)) (List.range (s.mergeSort fun a b => decide (a <= b)).length)
 rwa [Js, List.length_mergeSort] at this
theorem Y7y {L : List (List Int)} (p : L.length <= 1000) (q : (L.map List.length).sum <= 1000000) (n : 1048576 < N) : Z31 N L = some L.flatten := by
 have a : ∀ (L : List (List Int)) (j : Nat), ((L.take j).map List.length).sum <= (L.map List.length).sum := by
  intro L
  induction L with
  | nil => intro j; simp
  | cons b L r =>
   intro j;cases j with
   | zero => simp
   | succ j => grind
 have c : ∀ L : List (List Int), L.flatten.length = (L.map List.length).sum := fun L => List.length_flatten;have f : Z28 N N [] L (L.length : Int) 0 = some L.flatten := by
  have := loop (fun k (s : Nat) => Z28 N k (L.take s).flatten L (L.length : Int) (s : Int)) (fun s => s <= L.length) (fun s => L.length - s) (fun o => o = some L.flatten) (fun k j i => by
   simp only [Z28, Z5v];by_cases d : j < L.length
   ·right;refine ⟨j + 1, d, om, ?_⟩;have h : (j : Int) < (L.length : Int) :=om;have t := a L (j + 1);rw [J5 d, Jx, List.sum_append] at t;simp only [List.map_cons, List.map_nil, List.sum_cons, List.sum_nil] at t;simp only [zS, h, Y1 d, Y4 d];rw [Y3 om (by rw [c]; omega), grd_true, Y0, J5 d, List.flatten_append];simp only [J1y, List.flatten_nil, Jk]
   ·grind) N 0 om om
  exact this
 have := loop (fun k (s : Nat) => Z35 N k L (((L.take s).map List.length).sum : Int) L (L.length : Int) (s : Int)) (fun s => s <= L.length) (fun s => L.length - s) (fun o => o = some L.flatten) (fun k j i => by
  simp only [Z35, Z5w];by_cases d : j < L.length
  ·right;refine ⟨j + 1, d, om, ?_⟩;have h : (j : Int) < (L.length : Int) :=om;have t := a L (j + 1);have e : ((L.take (j + 1)).map List.length).sum = ((L.take j).map List.length).sum + (L[j]).length := by
    rw [J5 d, Jx, List.sum_append];simp
   have l : w64 ((((L.take j).map List.length).sum : Int) + ((L[j]).length : Int)) = (((L.take (j + 1)).map List.length).sum : Int) := by
    rw [e, Y6];omega
   have m : ¬ ((((L.take (j + 1)).map List.length).sum : Nat) : Int) < 0 :=om;simp only [zS, h, Y1 d, Y4 d, l, J7 m, Y0 (j := j)]
  ·left;have h : ¬ (j : Int) < (L.length : Int) :=om;have e : L.take j = L := Jp om;have g : (decide ((0 : Int) <= ((L.map List.length).sum : Int)) && decide ((([] : List Int).length + (((L.map List.length).sum : Nat) : Int).toNat) * 8 <= 140737488355328)) = true := by
    rw [J8, J6, J6, Jm];simp only [List.length_nil];omega
   simp only [zS, h, e, Z8g, g, f]) N 0 om om
 exact this
theorem Y6a {a b : List Int} (d : a.length <= 100000) (f : b.length <= 100000) (c : 1048576 < N) : Z6j N a b = some (setOf (a ++ b)) := by
 unfold Z6j;rw [Y7y sm (by simp; omega) c, J0];unfold Z8h Z70;have e : [a, b].flatten = a ++ b :=sm;rw [e, J2 (by rw [J1b]; omega), grd_true];rfl
def weightsIn (w : List Int) : Bool := w.all fun x => decide (1 <= x /\ x <= 9)
def validWeights (d : Db) (w : List Int) : Bool := validDb d && (decide (w.length = d.2.length) && weightsIn w)
def validSet (n : Nat) (l : List Int) : Bool := decide (∀ j, j < l.length -> (decide (0 <= l.getD j 0 /\ l.getD j 0 <= (n : Int) - 1) && (decide (j = 0) || decide (l.getD (j - 1) 0 < l.getD j 0))) = true)
theorem Y7z {d : Db} {l : List Int} (h : SmallDb d) (p : l.length <= 1048576) (m : 1048576 < N) : Z8t N d l = some (validSet d.2.length l) := by
 have o := h.facts;unfold Z8t Z0c2;rw [Yb (n := l.length) (fun j => decide (0 <= l.getD j 0 /\ l.getD j 0 <= (d.2.length : Int) - 1) && (decide (j = 0) || decide (l.getD (j - 1) 0 < l.getD j 0))) (some false) (some true) (fun k i => Z7a N k l d.1 d.2 i)
  (fun k => by simp [Z7a, Z9b]) (fun k j b => ?_) om]
 ·unfold validSet;split
  ·rename_i a; rw [J2 a]
  ·rename_i a; rw [J7 a]
 ·have e : (j : Int) < (l.length : Int) :=om;simp only [zS, Z7a, Z9b, e, Y1 b, Y4 b, l1In, Y2 b, Y0 (j := j), Y6 (show -9223372036854775808 <= (d.2.length : Int) - 1 by omega) om];cases decide (0 <= l[j] /\ l[j] <= (d.2.length : Int) - 1) with
  | false => rfl
  | true =>
   simp only [zS, Jb];by_cases c : j = 0
   ·subst c; simp
   ·have f : (j : Int) > 0 :=om;have a : j - 1 < l.length :=om;simp only [zS, f, Y9 (show 0 < j by omega) om, Y1 a, Y4 a, c, Jt, Y2 a];by_cases g : l[j - 1] < l[j]
    ·grind
    ·grind
theorem Y3f {n : Nat} {l : List Int} (m : n <= 1048576) (h : l.length <= 1048576) (g : 1048576 < N) : Z1z N l (n : Int) = some (validSet n l) := by
 unfold Z1z Z0a0;rw [Yb (n := l.length) (fun j => decide (0 <= l.getD j 0 /\ l.getD j 0 <= (n : Int) - 1) && (decide (j = 0) || decide (l.getD (j - 1) 0 < l.getD j 0))) (some false) (some true) (fun k i => Z4i N k l (n : Int) l (l.length : Int) i)
  (fun k => by simp [Z4i, Z6h]) (fun k j b => ?_) om]
 ·unfold validSet;split
  ·simp_all
  ·simp_all
 ·have d : (j : Int) < (l.length : Int) :=om;simp only [zS, Z4i, Z6h, d, Y1 b, Y4 b, Yk, Y2 b, Y0 (j := j), Y6 (show -9223372036854775808 <= (n : Int) - 1 by omega) om];cases decide (0 <= l[j] /\ l[j] <= (n : Int) - 1) with
  | false => rfl
  | true =>
   simp only [zS, Jb];by_cases c : j = 0
   ·subst c; simp
   ·have e : (j : Int) > 0 :=om;have a : j - 1 < l.length :=om;simp only [zS, e, Y9 (show 0 < j by omega) om, Y1 a, Y4 a, c, Jt, Y2 a];by_cases f : l[j - 1] < l[j]
    ·grind
    ·grind
theorem Yw {n : Nat} {l : List Int} (h : validSet n l = true) {j : Nat} (a : j < l.length) : 0 <= l[j] /\ l[j] < (n : Int) := by
 have := of_decide_eq_true h j a;rw [J8, J6, Y2 a] at this;omega
theorem Y1g {r : Rel} (h : validRel r = true) : 1 <= r.2.1 /\ r.2.1 <= 3 := by
 unfold validRel Z0c at h;by_cases d : r.1.size = 1
 ·have a : ∃ b, byteAt r.1 0 = some b := by
   unfold byteAt;have : (0 : Int).toNat < r.1.size :=om;exact ⟨r.1[(0 : Int).toNat], by rw [Jc om, getElem?_pos]⟩
  obtain ⟨b, a⟩ := a;rw [a] at h;simp only [J0, l1In] at h;by_cases c : 1 <= r.2.1 /\ r.2.1 <= 3
  ·exact c
  ·grind
 ·grind
abbrev Atm := Int × List Int
abbrev Qry := Int × List Atm × List Int
def arity (l : List Rel) (r : Int) : Int := (l.getD r.toNat (⟨#[]⟩, 0, 0)).2.1
def termsOk (n : Nat) (a : List Int) : Bool := a.all fun t => decide (-10 <= t /\ t <= (n : Int) - 1)
def atomAt (as : List Atm) (j : Nat) : Atm := as.getD j (0, [])
def newRel (as : List Atm) (j : Nat) : Bool := !((as.take j).any fun b => decide (b.1 = (atomAt as j).1))
def atomOk (l : List Rel) (n : Nat) (as : List Atm) (j : Nat) : Bool := decide (0 <= (atomAt as j).1 /\ (atomAt as j).1 <= (l.length : Int) - 1) && (decide (((atomAt as j).2.length : Int) = arity l (atomAt as j).1) && (newRel as j && termsOk n (atomAt as j).2))
def occB (as : List Atm) (v : Int) : Bool := as.any fun a => decide (v ∈ a.2)
def allOcc (n : Nat) (as : List Atm) : Bool := decide (∀ v, v < n -> occB as (v : Int) = true)
def atomsOk (l : List Rel) (n : Nat) (as : List Atm) : Bool := decide (∀ j, j < as.length -> atomOk l n as j = true)
def validQ (l : List Rel) (q : Qry) : Bool := validRels l && (decide (0 <= q.1 /\ q.1 <= 4) && (decide (1 <= (q.2.1.length : Int) /\ (q.2.1.length : Int) <= 3) && (atomsOk l q.1.toNat q.2.1 && (allOcc q.1.toNat q.2.1 && validSet q.1.toNat q.2.2))))
theorem Y2m {l : List Rel} {r : Int} (a : validRels l = true) (h : 0 <= r /\ r <= (l.length : Int) - 1) : 1 <= arity l r /\ arity l r <= 3 := Y1g (Yp a (j := r.toNat) om)
def metL (f : Nat -> Bool) : List Bool := [f 0, f 1, f 2, f 3]
theorem Y5b {f : Nat -> Bool} {v : Nat} (h : v < 4) : inb (v : Int) (metL f) = true /\ at_ false (metL f) (v : Int) = f v := by
 have a : v < (metL f).length := h;refine ⟨Y1 a, ?_⟩;rw [Y4 a]
 match v, h with
 | 0, _ => rfl
 | 1, _ => rfl
 | 2, _ => rfl
 | 3, _ => rfl
theorem Y71 {f : Nat -> Bool} {t : Nat} (h : t < 4) : (metL f).set t true = metL fun v => f v || decide (v = t) := by
 match t, h with
 | 0, _ => simp [metL]
 | 1, _ => simp [metL]
 | 2, _ => simp [metL]
 | 3, _ => simp [metL]
theorem Y1p {f g : Nat -> Bool} (h : ∀ v, f v = g v) : metL f = metL g := by
 unfold metL;rw [h 0, h 1, h 2, h 3]
theorem Y6b {N n : Nat} {l : List Rel} {as : List Atm} {fr : List Int} {j : Nat} {a : Int} {b : List Int} (z : n <= 4) (w : b.length <= 3) (y : 1048576 < N) (R : List Rel -> Int -> List Atm -> List Int -> List Bool -> Int -> Option Bool) (f : Nat -> Bool) :
  Z1x R N N l (n : Int) as fr (metL f) (j : Int) a b 0 = if termsOk n b then R l (n : Int) as fr (metL fun v => f v || decide ((v : Int) ∈ b)) (w64 ((j : Int) + 1)) else some false := by
 have := loop (fun k (q : Nat) => Z1x R N k l (n : Int) as fr (metL fun v => f v || decide ((v : Int) ∈ b.take q)) (j : Int) a b (q : Int)) (fun q => q <= b.length /\ termsOk n (b.take q) = true) (fun q => b.length - q) (fun o => o = if termsOk n b then R l (n : Int) as fr (metL fun v => f v || decide ((v : Int) ∈ b)) (w64 ((j : Int) + 1)) else some false) (fun k q u => by
  obtain ⟨s, c⟩ := u;simp only [Z1x, Z7p];by_cases d : q < b.length
  ·have r : (q : Int) < (b.length : Int) :=om;simp only [zS, r, Y1 d, Y4 d, l1In, Y6 (x := (n : Int) - 1), Y0 (j := q)];by_cases m : -10 <= b[q] /\ b[q] <= (n : Int) - 1
   ·right;have g : termsOk n (b.take (q + 1)) = true := by
     unfold termsOk at *;rw [J5 d, List.all_append, c];simp [m]
    refine ⟨q + 1, ⟨d, g⟩, om, ?_⟩;rw [J2 m, Ja, J1];by_cases p : b[q] >= 0
    ·obtain ⟨t, e⟩ : ∃ t : Nat, b[q] = (t : Int) := ⟨b[q].toNat, om⟩;have i : t < 4 :=om;rw [J2 p, J3, e, (Y5b i).1, grd_true, grd_true, letv_eq, Jm, Y71 i];congr 1;refine Y1p fun v => ?_;rw [J5 d, e];have : decide ((v : Int) ∈ b.take q ++ [(t : Int)]) = (decide ((v : Int) ∈ b.take q) || decide (v = t)) :=gr;rw [this, Bool.or_assoc]
    ·rw [J7 p, J1];congr 1;refine Y1p fun v => ?_;rw [J5 d];have : decide ((v : Int) ∈ b.take q ++ [b[q]]) = decide ((v : Int) ∈ b.take q) :=gr;rw [this]
   ·left;have : termsOk n b = false := by
     rw [J1c];intro h;unfold termsOk at h;exact m (of_decide_eq_true (Jg.1 h _ (J4 d)))
    rw [J7 m, Jw, J3, this];rfl
  ·left;have : q = b.length :=om;subst this;rw [J18] at c;simp [J1, c]) N 0 om (by simp [termsOk])
 simpa using this
theorem Y80 {N n : Nat} {l : List Rel} {as : List Atm} {fr : List Int} {met : List Bool} {j : Nat} {a : List Int} (m : as.length <= 3) (r : j < as.length) (q : 1048576 < N) (R : List Rel -> Int -> List Atm -> List Int -> List Bool -> Int -> Option Bool) :
  Z2p R N N l (n : Int) as fr met (j : Int) (atomAt as j).1 a 0 = if newRel as j then Z1x R N N l (n : Int) as fr met (j : Int) (atomAt as j).1 a 0 else some false := by
 have := Yb (n := j) (fun k => !decide ((atomAt as k).1 = (atomAt as j).1)) (some false) (Z1x R N N l (n : Int) as fr met (j : Int) (atomAt as j).1 a 0) (fun k i => Z2p R N k l (n : Int) as fr met (j : Int) (atomAt as j).1 a i) (fun k => by simp [Z2p, Z5k, J1]) (fun k i hi => by
  have g : (i : Int) < (j : Int) :=om;have c : i < as.length :=om;simp only [zS, Z2p, Z5k, g, Y1 c, Y4 c, Y0 (j := i), beqI];have e : atomAt as i = as[i] := Y2 c;rw [e];by_cases f : as[i].1 = (atomAt as j).1
  ·simp [f]
  ·grind) (k := N) om
 rw [this];have e : newRel as j = decide (∀ i, i < j -> (!decide ((atomAt as i).1 = (atomAt as j).1)) = true) := by
  unfold newRel;rw [J1h, J6, J1o, List.any_eq_false];constructor
  ·intro h i hi;have p : atomAt as i ∈ as.take j := by
    rw [show atomAt as i = as[i]' om from Y2 om];rw [Jd];exact ⟨i, by rw [J17]; omega, gr⟩
   have := h _ p;simpa using this
  ·intro h b o;obtain ⟨i, hi, rfl⟩ := Jd.1 o;have d : i < j :=gr;rw [J1z];have := h i d;rw [show atomAt as i = as[i]' om from Y2 om] at this;simpa using this
 rw [e];by_cases f : ∀ i, i < j -> (!decide ((atomAt as i).1 = (atomAt as j).1)) = true
 ·grind
 ·grind
theorem Y81 {N n : Nat} {as : List Atm} {fr : List Int} {f : Nat -> Bool} (p : n <= 4) (g : fr.length <= 1048576) (o : 1048576 < N) :
  Z2r N N (n : Int) as fr (metL f) 0 = some (decide (∀ v, v < n -> f v = true) && validSet n fr) := by
 have a : Z2q N N (n : Int) as fr 0 = some (validSet n fr) := by
  rw [Yb (n := fr.length) (fun j => decide (0 <= fr.getD j 0 /\ fr.getD j 0 <= (n : Int) - 1) && (decide (j = 0) || decide (fr.getD (j - 1) 0 < fr.getD j 0))) (some false) (some true) (fun k i => Z2q N k (n : Int) as fr i)
   (fun k => by simp [Z2q, Z5l]) (fun k j b => ?_) om]
  ·unfold validSet;split
   ·simp_all
   ·simp_all
  ·have c : (j : Int) < (fr.length : Int) :=om;simp only [zS, Z2q, Z5l, c, Y1 b, Y4 b, l1In, Y2 b, Y0 (j := j), Y6 (show -9223372036854775808 <= (n : Int) - 1 by omega) om];cases decide (0 <= fr[j] /\ fr[j] <= (n : Int) - 1) with
   | false => rfl
   | true =>
    simp only [zS, Jb];by_cases d : j = 0
    ·subst d; simp
    ·have e : (j : Int) > 0 :=om;have a : j - 1 < fr.length :=om;simp only [zS, e, Y9 (show 0 < j by omega) om, Y1 a, Y4 a, d, Jt, Y2 a];by_cases m : fr[j - 1] < fr[j]
     ·grind
     ·grind
 rw [Yb (n := n) f (some false) (some (validSet n fr)) (fun k i => Z2r N k (n : Int) as fr (metL f) i) (fun k => by simp [Z2r, Z5m, J1, a]) (fun k j b => ?_) om]
 ·grind
 ·have c : (j : Int) < (n : Int) :=om;obtain ⟨h, l⟩ := Y5b (f := f) (show j < 4 by omega);simp only [zS, Z2r, Z5m, c, h, l, Y0 (j := j)];cases f j <;> simp
theorem Y4b {as : List Atm} {j : Nat} (a : j < as.length) (v : Int) : occB (as.take (j + 1)) v = (occB (as.take j) v || decide (v ∈ (atomAt as j).2)) := by
 unfold occB;rw [J5 a, List.any_append, show atomAt as j = as[j] from Y2 a];simp
theorem Y6c {l : List Rel} {q : Qry} (F : l.length <= 1048576) (w : q.2.2.length <= 1048576) (f : 1048576 < N) : Z29 N l q = some (validQ l q) := by
 obtain ⟨n, as, fr⟩ := q;simp only at w;unfold Z29 Z91 validQ;rw [Y1m F f, J0, l1In, l1In];cases y : validRels l with
 | false => rfl
 | true =>
  by_cases p : 0 <= n /\ n <= 4
  ·by_cases u : 1 <= (as.length : Int) /\ (as.length : Int) <= 3
   ·obtain ⟨n, rfl⟩ : ∃ m : Nat, n = (m : Int) := ⟨n.toNat, om⟩;simp only [zS, J2 p, J2 u, Jb, Jm];rw [show makeOk 4 1 = true from rfl, grd_true];have G : l.length <= 4 := (of_decide_eq_true y).2;have := loop (fun k (j : Nat) => Z3l N k l (n : Int) as fr (metL fun v => occB (as.take j) (v : Int)) (j : Int)) (fun j => j <= as.length /\ ∀ i, i < j -> atomOk l n as i = true) (fun j => as.length - j) (fun o => o = some (atomsOk l n as && (allOcc n as && validSet n fr))) (fun k j H => by
     obtain ⟨E, r⟩ := H;simp only [Z3l, Z7q];by_cases b : j < as.length
     ·have B : (j : Int) < (as.length : Int) :=om;have C : atomAt as j = as[j] := Y2 b;have a : atomOk l n as j = false -> some false = some (atomsOk l n as && (allOcc n as && validSet n fr)) := fun h => by
       have : atomsOk l n as = false := by
        unfold atomsOk;rw [J1l];intro D;have := D j b;rw [h] at this;cases this
       rw [this]; rfl
      simp only [zS, B, Y1 b, Y4 b, l1In, Y6 (x := (l.length : Int) - 1), <- C];by_cases c : 0 <= (atomAt as j).1 /\ (atomAt as j).1 <= (l.length : Int) - 1
      ·obtain ⟨z, A⟩ := Y2m y c;rw [J2 c, Ja, J1, Y8 c.1 om, grd_true, bneI];rw [show (at_ (⟨#[]⟩, (0, 0)) l (atomAt as j).1).2.1 = arity l (atomAt as j).1 from rfl];by_cases d : ((atomAt as j).2.length : Int) = arity l (atomAt as j).1
       ·rw [J2 d, Ja, J1, Y80 om b f];cases s : newRel as j with
        | false =>
         left;exact a (by unfold atomOk; rw [s, J12, Jq, Jq])
        | true =>
         rw [Jc rfl, Y6b om om f];cases t : termsOk n (atomAt as j).2 with
         | false =>
          left;exact a (by unfold atomOk; rw [t, Jq, Jq, Jq])
         | true =>
          right;refine ⟨j + 1, ⟨b, fun i hi => ?_⟩, om, ?_⟩
          ·by_cases e : i = j
           ·subst e;unfold atomOk;rw [J2 c, J2 d, s, t]; rfl
           ·grind
          ·rw [Jc rfl, Y0];congr 1;exact Y1p fun v => (Y4b b (v : Int)).symm
       ·left;rw [J7 d, Jw, J3];exact a (by unfold atomOk; rw [J7 d, J12, Jq])
      ·left;rw [J7 c, Jw, J3];exact a (by unfold atomOk; rw [J7 c, J12])
     ·left;have : j = as.length :=om;subst this;have g : atomsOk l n as = true := J2 r;simp only [zS, J10, Y81 (show n <= 4 by omega) w f, J18, g, Jb];rfl) N 0 om ⟨om, fun i hi => om⟩
    exact this
   ·simp [p, u]
  ·simp [p]
theorem Y82 {as : List Atm} {a : Atm} (f : as.length <= 1000) (g : 1048576 < N) : Z7 N as a = some (as.any fun b => decide (b.1 = a.1)) := by
 unfold Z7 Z0e Z20;rw [Yv (d := ((0, []) : Atm)) (xs := as) (p := fun b => decide (b.1 = a.1)) (first (n := as.length) (fun j => decide ((as.getD j (0, [])).1 = a.1)) (fun k i => Z0b N k as a (as.length : Int) i) (fun k => by simp [Z0b, Z0u]) (fun k j c => ?_) om)];have e : (j : Int) < (as.length : Int) :=om;simp only [zS, Z0b, Z0u, Z3p, e, Y1 c, Y4 c, Y2 c, Y0 (j := j), beqI];cases decide (as[j].1 = a.1) <;> rfl
def varsIn (a : List Int) : List Int := a.filter fun t => decide (0 <= t /\ t <= 3)
theorem Y72 {a : Atm} (h : a.2.length <= 1000) (f : 1048576 < N) : Z3h N a = some (setOf (varsIn a.2)) := by
 unfold Z3h Z8l varsIn;have := loop (fun k (q : Nat) => Z4j N k ((a.2.take q).filter fun t => decide (0 <= t /\ t <= 3)) a.2 (a.2.length : Int) (q : Int)) (fun q => q <= a.2.length) (fun q => a.2.length - q) (fun o => o = some (setOf (a.2.filter fun t => decide (0 <= t /\ t <= 3)))) (fun k q g => by
  simp only [Z4j, Z74];by_cases b : q < a.2.length
  ·right;refine ⟨q + 1, b, om, ?_⟩;have e : (q : Int) < (a.2.length : Int) :=om;have c := Jo (fun t => decide (0 <= t /\ t <= 3)) (a.2.take q);rw [J17] at c;simp only [zS, e, Y1 b, Y4 b, Yk, Y0 (j := q)];rw [J5 b, J1k];by_cases d : 0 <= a.2[q] /\ a.2[q] <= 3
   ·rw [J2 d, J3, Y3, grd_true];simp [d]
   ·grind
  ·left;have : q = a.2.length :=om;subst this;have c := Jo (fun t => decide (0 <= t /\ t <= 3)) a.2;simp only [zS, J10, J18];rw [Y6a om sm f, J0, Jk]) N 0 om om
 simpa using this
def varsOf (as : List Atm) : List Int := ((List.range 4).filter fun (v : Nat) => occB as (v : Int)).map fun (v : Nat) => (v : Int)
theorem Y34 {as : List Atm} {x : Int} : x ∈ varsOf as ↔ (0 <= x /\ x <= 3) /\ occB as x = true := by
 unfold varsOf;rw [Je];constructor
 ·grind
 ·rintro ⟨b, a⟩
  exact ⟨x.toNat, Jh.2 ⟨Jj.2 om, by rw [show ((x.toNat : Nat) : Int) = x by omega]; exact a⟩, om⟩
theorem Y40 (as : List Atm) : (varsOf as).Pairwise (· < ·) := by
 unfold varsOf;rw [J11];exact (J1e _ Jz).imp fun h => om
theorem Y5p (as : List Atm) : (varsOf as).length <= 4 := by
 unfold varsOf;rw [Jr];have := Jo (fun v : Nat => occB as (v : Int)) (List.range 4)
 rwa [Js] at this
theorem Y52 {as : List Atm} {j : Nat} (a : j < as.length) : setOf (varsOf (as.take j) ++ setOf (varsIn (atomAt as j).2)) = varsOf (as.take (j + 1)) := by
 refine Y1o (Y4a _) (Y40 _) fun x => ?_;rw [Y3j, Jv, Y3j, Y34, Y34, Y4b a];unfold varsIn;rw [Jh, J6, J21, J6];constructor
 ·grind
 ·grind
theorem Y5q {n : Nat} {as : List Atm} (p : n <= 4) (f : ∀ j, j < as.length -> termsOk n (atomAt as j).2 = true) : decide (((varsOf as).length : Int) = (n : Int)) = allOcc n as := by
 have d : ∀ v : Int, occB as v = true -> v <= (n : Int) - 1 := by
  intro v b;obtain ⟨a, m, g⟩ := J1p.1 b;obtain ⟨j, i, rfl⟩ := Jd.1 m;have := f j i;rw [show atomAt as j = as[j] from Y2 i] at this;exact (of_decide_eq_true (Jg.1 this v (of_decide_eq_true g))).2
 have e : (varsOf as).length = ((List.range n).filter fun (v : Nat) => occB as (v : Int)).length := by
  unfold varsOf;rw [Jr];have l : List.range 4 = List.range n ++ (List.range (4 - n)).map (n + ·) := by
   rw [<- List.range_add, show n + (4 - n) = 4 by omega]
  rw [l, J1k, J1b];have : ((List.range (4 - n)).map (n + ·)).filter (fun v : Nat => occB as (v : Int)) = [] := by
   rw [List.filter_eq_nil_iff];intro v b;obtain ⟨k, _, rfl⟩ := Je.1 b;intro h;have := d _ h;omega
  rw [this]; rfl
 rw [e];unfold allOcc;rw [decide_eq_decide];have o := Jo (fun v : Nat => occB as (v : Int)) (List.range n);rw [Js] at o;constructor
 ·intro h v b;have c : ((List.range n).filter fun v : Nat => occB as (v : Int)).length = (List.range n).length :=gr;exact J1q.1 c v (Jj.2 b)
 ·intro h;have c : ((List.range n).filter fun v : Nat => occB as (v : Int)).length = (List.range n).length := J1q.2 fun v b => h v (Jj.1 b);rw [c, Js]
theorem Y6d {N n : Nat} {l : List Rel} {as : List Atm} {fr f : List Int} {j : Nat} {a : Int} {c : List Int} (v : n <= 4) (g : c.length <= 3) (w : f.length <= 4) (m : 1048576 < N) (R : List Rel -> Int -> List Atm -> List Int -> List Int -> List Atm -> Int -> Int -> Option Bool) :
  Z2x R N N l (n : Int) as fr f a c as (as.length : Int) (j : Int) c (c.length : Int) 0 = if termsOk n c then R l (n : Int) as fr (setOf (f ++ setOf (varsIn c))) as (as.length : Int) (w64 ((j : Int) + 1)) else some false := by
 have u := Y72 (N := N) (a := (a, c)) (show c.length <= 1000 by omega) m;have q : (varsIn c).length <= 3 := Ji (Jo _ _) g;have r := Y69 (varsIn c);have s := Y6a (N := N) (a := f) (b := setOf (varsIn c)) om om m;rw [Yb (n := c.length) (fun k => decide (-10 <= c.getD k 0 /\ c.getD k 0 <= (n : Int) - 1)) (some false) (R l (n : Int) as fr (setOf (f ++ setOf (varsIn c))) as (as.length : Int) (w64 ((j : Int) + 1))) (fun k i => Z2x R N k l (n : Int) as fr f a c as (as.length : Int) (j : Int) c (c.length : Int) i) (fun k => by
  simp [Z2x, Z5n, J1, u, s]) (fun k i hi => by
  have o : (i : Int) < (c.length : Int) :=om;simp only [zS, Z2x, Z5n, o, Y1 hi, Y4 hi, Yk, Y6 (x := (n : Int) - 1), Y2 hi, Y0 (j := i)];cases decide (-10 <= c[i] /\ c[i] <= (n : Int) - 1) <;> simp) om]
 have e : termsOk n c = decide (∀ k, k < c.length -> decide (-10 <= c.getD k 0 /\ c.getD k 0 <= (n : Int) - 1) = true) := by
  unfold termsOk;rw [J1h, J6];exact (Y3c (d := (0 : Int)) (p := fun t => decide (-10 <= t /\ t <= (n : Int) - 1))).symm
 rw [e];by_cases h : ∀ k, k < c.length -> decide (-10 <= c.getD k 0 /\ c.getD k 0 <= (n : Int) - 1) = true
 ·grind
 ·grind
theorem Y6e {l : List Rel} {q : Qry} (G : l.length <= 1048576) (w : q.2.2.length <= 1048576) (p : 1048576 < N) : Z3z N l q = some (validQ l q) := by
 obtain ⟨n, as, fr⟩ := q;simp only at w;unfold Z3z Z94 validQ;rw [Y42 G p, J0, Yk, Yk];cases J : validRels l with
 | false => rfl
 | true =>
  by_cases s : 0 <= n /\ n <= 4
  ·by_cases v : 1 <= (as.length : Int) /\ (as.length : Int) <= 3
   ·obtain ⟨n, rfl⟩ : ∃ m : Nat, n = (m : Int) := ⟨n.toNat, om⟩;simp only [zS, J2 s, J2 v, Jb, Jm];rw [Y3f om w p, J0];cases D : validSet n fr with
    | false => grind
    | true =>
     rw [Ja, J1, Bool.and_true];have := loop (fun k (j : Nat) => Z3q N k l (n : Int) as fr (varsOf (as.take j)) as (as.length : Int) (j : Int)) (fun j => j <= as.length /\ ∀ i, i < j -> atomOk l n as i = true) (fun j => as.length - j) (fun o => o = some (atomsOk l n as && allOcc n as)) (fun k j H => by
      obtain ⟨F, d⟩ := H;simp only [Z3q, Z7v];by_cases c : j < as.length
      ·have B : (j : Int) < (as.length : Int) :=om;have C : atomAt as j = as[j] := Y2 c;have a : atomOk l n as j = false -> some false = some (atomsOk l n as && allOcc n as) := fun h => by
        have : atomsOk l n as = false := by
         unfold atomsOk;rw [J1l];intro E;have := E j c;rw [h] at this;cases this
        rw [this]; rfl
       simp only [zS, B, Y1 c, Y4 c, Yk, Y6 (x := (l.length : Int) - 1), <- C];by_cases f : 0 <= (atomAt as j).1 /\ (atomAt as j).1 <= (l.length : Int) - 1
       ·obtain ⟨y, z⟩ := Y2m J f;rw [J2 f, Ja, J1, Y8 f.1 om, grd_true, bneI];rw [show (at_ (⟨#[]⟩, (0, 0)) l (atomAt as j).1).2.1 = arity l (atomAt as j).1 from rfl];by_cases g : ((atomAt as j).2.length : Int) = arity l (atomAt as j).1
        ·rw [J2 g, Ja, J1, Y12 om om om, grd_true, Jm, Y82 (by rw [J17]; omega) p, J0];rw [show ((as.take j).any fun b => decide (b.1 = (atomAt as j).1)) = !newRel as j from by unfold newRel; rw [Bool.not_not]];cases t : newRel as j with
         | false =>
          left;exact a (by unfold atomOk; rw [t, J12, Jq, Jq])
         | true =>
          rw [Ja, J1, Y6d om om (Y5p _) p];cases u : termsOk n (atomAt as j).2 with
          | false =>
           left;exact a (by unfold atomOk; rw [u, Jq, Jq, Jq])
          | true =>
           right;refine ⟨j + 1, ⟨c, fun i hi => ?_⟩, om, ?_⟩
           ·by_cases e : i = j
            ·subst e;unfold atomOk;rw [J2 f, J2 g, t, u]; rfl
            ·exact d i om
           ·rw [Jc rfl, Y0, Y52 c]
        ·left;rw [J7 g, Jw, J3];exact a (by unfold atomOk; rw [J7 g, J12, Jq])
       ·left;rw [J7 f, Jw, J3];exact a (by unfold atomOk; rw [J7 f, J12])
      ·left;have : j = as.length :=om;subst this;have r : atomsOk l n as = true := J2 d;have I : ∀ j, j < as.length -> termsOk n (atomAt as j).2 = true := fun j c => by
        have := d j c;unfold atomOk at this;simp at this;exact this.2.2.2
       simp only [zS, J10, J18, r, Jb, beqI];rw [Y5q om I]) N 0 om ⟨om, fun i hi => om⟩
     have A : varsOf (as.take 0) = [] := by unfold varsOf occB; simp
     simp [A] at this;exact this
   ·simp [s, v]
  ·simp [s]
def queryFor (d : Db) (q : Qry) : Bool := validDb d && validQ d.1 q
theorem Ym {d : Db} {q : Qry} (h : SmallDb d) (b : q.2.2.length <= 1048576) (a : 1048576 < N) : Z0x N d q = some (queryFor d q) := by
 unfold Z0x queryFor;rw [Yf h a, J0];cases validDb d with
 | false => rfl
 | true => rw [J3, Y6c h.rels b a]; rfl
theorem Yq {d : Db} {q : Qry} (h : SmallDb d) (b : q.2.2.length <= 1048576) (a : 1048576 < N) : Z0v N d q = some (queryFor d q) := by
 unfold Z0v queryFor;rw [Y1u h a, J0];cases validDb d with
 | false => rfl
 | true => rw [J3, Y6e h.rels b a]; rfl
theorem Yr {d R : Type} (f : Nat -> d -> Option R) (I : d -> Prop) (c : d -> Nat) (Q : Option R -> Prop) (a : ∀ k s, I s -> (∀ b, I b -> c b < c s -> Q (f k b)) -> Q (f (k + 1) s)) : ∀ (k : Nat) (s : d), c s < k -> I s -> Q (f k s)
 | 0, s, hk, hs => om
 | k + 1, s, hk, hs => a k s hs fun b e g => Yr f I c Q a k b om e
structure QD (m : Nat) (q : Qry) : Prop where
 vars : q.1 <= 101
 atoms : 1 <= q.2.1.length /\ q.2.1.length <= 100
 terms : ∀ a ∈ q.2.1, 1 <= a.2.length /\ a.2.length <= 100
 free : q.2.2.length <= m
theorem QD.mono {m n : Nat} {q : Qry} (h : QD m q) (a : m <= n) : QD n q := ⟨h.vars, h.atoms, h.terms, Ji h.free a⟩
theorem Y8r {N m : Nat} {q : Qry} (h : QD m q) (g : m <= 1000) (d : 1048576 < N) : Z6p N q = some q := by
 have e := h.atoms;have f := h.free;unfold Z6p Z0b3;rw [Y3, grd_true];have := loop (fun k (s : Nat) => Z7b N k q.1 q.2.1 q.2.2 0 [] [] q.1 (q.2.1.take s) q.2.2 (s : Int)) (fun s => s <= q.2.1.length) (fun s => q.2.1.length - s) (fun o => o = some q) (fun k j i => by
  simp only [Z7b, Z9w];by_cases a : j < q.2.1.length
  ·right;refine ⟨j + 1, a, om, ?_⟩;have b : (j : Int) < (q.2.1.length : Int) :=om;have c := h.terms _ (J4 a);simp only [zS, b, Y1 a, Y4 a];rw [Y3, grd_true, Y3, grd_true, Y0, J5 a]
  ·grind) N 0 om om
 simpa using this
def Shp (L : List Nat) (x : List Atm) : Prop := x.map (fun a => a.2.length) = L
theorem Shp.len {L : List Nat} {x : List Atm} (h : Shp L x) : x.length = L.length := by rw [<- h, Jr]
theorem Shp.at {L : List Nat} {x : List Atm} (h : Shp L x) {i : Nat} (hi : i < x.length) : (x[i]).2.length = L[i]'(by rw [<- h.len]; exact hi) := by
 subst h;simp
theorem Shp.set {L : List Nat} {x : List Atm} (h : Shp L x) {i : Nat} (hi : i < x.length) (a : Int) (k : Nat) (v : Int) : Shp L (x.set i (a, (x[i]).2.set k v)) := by
 unfold Shp at h ⊢;rw [List.map_set];subst h;simp;apply List.ext_getElem
 ·simp
 ·grind
theorem Y8g {N K : Nat} {R} {Q : Option Qry -> Prop} {a b : Int} {e : List Atm} {f g : List Int} {t : Int} {L : List Nat} {x : List Atm} {c : List Int} {i k m : Nat} (q : Shp L x) (hi : i < x.length) (u : k < (x[i]).2.length) (A : c.length <= m) (z : m <= 1000) (v : k <= 1000) (y : c.length < K)
  (p : ∀ r d, Shp L r -> d.length <= m + 1 -> Q (R a e f b r g d (i : Int) ((k + 1 : Nat) : Int))) : Q (Z5a R N K a e f b x g c (i : Int) (k : Int) t (-1) 0) := by
 have := loop (fun K (s : Int × Nat) => Z5a R N K a e f b x g c (i : Int) (k : Int) t s.1 (s.2 : Int)) (fun s => s.2 <= c.length) (fun s => c.length - s.2) Q (fun K s w => by
  obtain ⟨h, j⟩ := s;simp only at w ⊢;simp only [Z5a, Z9e];by_cases l : j < c.length
  ·right;have n : (j : Int) < (c.length : Int) :=om;simp only [zS, n, Y1 l, Y4 l];cases (c[j] == t) with
   | true => exact ⟨((j : Int), j + 1), l, by simp only; omega, by rw [J3, Y0]⟩
   | false => exact ⟨(h, j + 1), l, by simp only; omega, by rw [J1, Y0]⟩
  ·left;have n : ¬ (j : Int) < (c.length : Int) :=om;have o : appOk c [t] 8 = true := Y3;simp only [zS, n, Y1 hi, Y4 hi, Y1 u, Jm, letv_eq, o, Y0 (j := k)];cases decide (h < 0) with
   | true => rw [J3]; exact p _ _ (q.set hi _ _ _) (by simp; omega)
   | false => rw [J1]; exact p _ _ (q.set hi _ _ _) om) K (-1, 0) (by simp only; omega) sm
 exact this
theorem Y8h {N K : Nat} {R0} {Q : Option Qry -> Prop} {a b : Int} {e : List Atm} {f g : List Int} {L : List Nat} {x : List Atm} {c : List Int} {i m : Nat} (t : ∀ n ∈ L, n <= 3) (l : Shp L x) (hi : i < x.length) (B : c.length <= m) (G : m <= 800) (E : 4 < K) (F : 1048576 < N)
  (z : ∀ o d, Shp L o -> d.length <= m + 3 -> Q (R0 a e f b o g d ((i + 1 : Nat) : Int))) (A : i <= 1000) : Q (Z4e R0 N K a e f b x g c (i : Int) 0) := by
 have := Yr (fun K (s : List Atm × List Int × Nat) => Z4e R0 N K a e f b s.1 g s.2.1 (i : Int) (s.2.2 : Int)) (fun s => Shp L s.1 /\ s.2.2 <= L[i]'(by rw [<- l.len]; exact hi) /\ s.2.1.length <= m + s.2.2) (fun s => L[i]'(by rw [<- l.len]; exact hi) - s.2.2) Q (fun K s C v => by
  obtain ⟨x, c, k⟩ := s;obtain ⟨j, w, r⟩ := C;simp only at j w r ⊢;have y := t _ (J4 (show i < L.length by grind));have h : i < x.length := by rw [j.len, <- l.len]; exact hi
  have u := j.at h;simp only [Z4e, Z9f];by_cases q : k < (x[i]).2.length
  ·have p : (k : Int) < ((x[i]).2.length : Int) :=om;simp only [zS, Y1 h, Y4 h, p, Y1 q, Y4 q];cases decide ((x[i]).2[k] < 0) with
   | true =>
    rw [J3, Y0];exact v (x, c, k + 1) ⟨j, by simp only; omega, by simp only; omega⟩ gr
   | false =>
    rw [J1];exact Y8g j h q r om om om (fun o d D H => v (o, d, k + 1) ⟨D, by simp only; omega, by simp only; omega⟩ gr)
  ·have p : ¬ (k : Int) < ((x[i]).2.length : Int) :=om;simp only [zS, Y1 h, Y4 h, p];rw [Y0];exact z x c j om) K (x, c, 0) (by have := t _ (J4 (show i < L.length by rw [<- l.len]; exact hi)); simp only; omega) ⟨l, sm, by simpa using B⟩
 exact this
theorem Y83 {q : Qry} (h : QD 0 q) (B : q.2.1.length <= 3) (C : ∀ a ∈ q.2.1, a.2.length <= 3) (k : 1048576 < N) : ∃ b, Z66 N q = some b /\ QD 0 b := by
 have t := h.atoms;unfold Z66 Z0am;rw [Y8r h om k, J0];have r : ∀ n ∈ q.2.1.map (fun a => a.2.length), n <= 3 :=gr;have := Yr (fun K (s : List Atm × List Int × Nat) => Z5b N K 0 [] [] q.1 s.1 q.2.2 s.2.1 (s.2.2 : Int)) (fun s => Shp (q.2.1.map (fun a => a.2.length)) s.1 /\ s.2.2 <= q.2.1.length /\ s.2.1.length <= 3 * s.2.2) (fun s => q.2.1.length - s.2.2) (fun o => ∃ b, o = some b /\ QD 0 b) (fun K s u w => by
  obtain ⟨x, l, i⟩ := s;obtain ⟨e, p, j⟩ := u;simp only at e p j ⊢;have d := e.len;rw [Jr] at d;simp only [Z5b, Z9g];by_cases hi : i < x.length
  ·have g : (i : Int) < (x.length : Int) :=om;simp only [zS, g];exact Y8h (Q := fun o => ∃ b, o = some b /\ QD 0 b) r e hi j om om k (fun A c z D => w (A, c, i + 1) ⟨z, by simp only; omega, by simp only; omega⟩ (by simp only; omega)) om
  ·have g : ¬ (i : Int) < (x.length : Int) :=om;simp only [zS, g];refine ⟨_, rfl, ⟨by simp only; omega, by simp only; omega, ?_, h.free⟩⟩;intro a v;have : a.2.length ∈ q.2.1.map (fun a => a.2.length) := by rw [<- e]; exact List.mem_map_of_mem (f := fun a : Atm => a.2.length) v
   obtain ⟨m, k1, y⟩ := Je.1 this;rw [<- y];exact h.terms m k1) N (q.2.1, [], 0) (by simp only; omega) ⟨rfl, sm, sm⟩
 exact this
def AtsD (n : Nat) (as : List Atm) : Prop := as.length = n /\ ∀ a ∈ as, 1 <= a.2.length /\ a.2.length <= 3
theorem Y8i {N K n : Nat} {R0} {Q : Option (Ctx × Qry) -> Prop} {c : Ctx} {as : List Atm} {vars d r : Int} {i m : Nat} (B : COk c) (j : AtsD i as) (hi : i <= 10) (E : 1 <= m /\ m <= 3) (D : 4 < K)
  (z : ∀ p g, COk (c.1, p) -> AtsD (i + 1) g -> Q (R0 c.1 p.1 p.2 0 [] [] 0 g [] (n : Int) vars d ((i + 1 : Nat) : Int))) : Q (Z5c R0 N K c.1 c.2.1 c.2.2 0 [] [] 0 as [] (n : Int) vars d (i : Int) r [] (m : Int)) := by
 have := Yr (fun K (s : (Int × Int) × List Int × Nat) => Z5c R0 N K c.1 s.1.1 s.1.2 0 [] [] 0 as [] (n : Int) vars d (i : Int) r s.2.1 (s.2.2 : Int)) (fun s => COk (c.1, s.1) /\ s.2.1.length + s.2.2 = m) (fun s => s.2.2) Q (fun K s C v => by
  obtain ⟨p, a2, k⟩ := s;obtain ⟨q, x⟩ := C;simp only at q x ⊢;simp only [Z5c, Z9h];by_cases u : (k : Int) > 0
  ·obtain ⟨w, b, e, l, _⟩ := Y1k (N := N) (c := (c.1, p.1, p.2)) (n := 12) q;simp only [zS, u, e];cases b with
   | true =>
    obtain ⟨t, y, h, f, _⟩ := Y7 (N := N) (c := (c.1, w)) (n := 2) l;simp only at h;simp only [zS, h];rw [Y3, grd_true, Y9 om om];exact v (t, a2 ++ [w64 (-1 - y)], k - 1) ⟨f, by simp; omega⟩ gr
   | false =>
    obtain ⟨t, y, h, f, _⟩ := Y7 (N := N) (c := (c.1, w)) (n := vars) l;simp only at h;simp only [zS, h];rw [Y3, grd_true, Y9 om om];exact v (t, a2 ++ [y], k - 1) ⟨f, by simp; omega⟩ gr
  ·simp only [zS, u];have A := j.1;rw [Y3, grd_true, Y0];refine z p _ q ⟨by simp [A], fun a o => ?_⟩;simp at o;rcases o with o | rfl
   ·exact j.2 a o
   ·grind) K (c.2, [], m) (by simp only; omega) ⟨B, sm⟩
 exact this
theorem Y84 {c : Ctx} (h : COk c) (y : 1048576 < N) : Dr c (Z76 N c) (QD 0) := by
 refine (Y7 h).bind fun p n z I => ?_;refine (Y7 (c := (c.1, p)) z).bind fun E v l J => ?_;refine (Y7 (c := (c.1, E)) l).bind fun F fr q H => ?_;obtain ⟨n, rfl⟩ : ∃ k : Nat, n = k := ⟨n.toNat, om⟩;obtain ⟨fr, rfl⟩ : ∃ k : Nat, fr = k := ⟨fr.toNat, om⟩;rw [show w64 (1 + (n : Int)) = ((n + 1 : Nat) : Int) by rw [Y6]; omega];have := Yr (fun K (s : (Int × Int) × List Atm × Nat) => Z5d N K c.1 s.1.1 s.1.2 0 [] [] 0 s.2.1 [] ((n + 1 : Nat) : Int) (w64 (1 + v)) (fr : Int) (s.2.2 : Int)) (fun s => COk (c.1, s.1) /\ AtsD s.2.2 s.2.1 /\ s.2.2 <= n + 1) (fun s => n + 1 - s.2.2) (fun o => Dr c o (QD 0)) (fun K s A B => by
  obtain ⟨p, as, i⟩ := s;obtain ⟨j, b, w⟩ := A;simp only at j b w ⊢;simp only [Z5d, Z9i];by_cases hi : (i : Int) < ((n + 1 : Nat) : Int)
  ·have f : w64 ((fr : Int) + (i : Int)) = ((fr + i : Nat) : Int) := by rw [Y6]; omega
   have g : ((fr + i : Nat) : Int).tmod 4 = (((fr + i) % 4 : Nat) : Int) := rfl;have t : (((fr + i) % 4 : Nat) : Int).tdiv 3 = (((fr + i) % 4 / 3 : Nat) : Int) := rfl;have u : w64 (2 + w64 (((fr + i) % 4 / 3 : Nat) : Int)) = ((2 + (fr + i) % 4 / 3 : Nat) : Int) := by
    rw [Y6 (x := (((fr + i) % 4 / 3 : Nat) : Int)), Y6]; omega
   simp only [zS, hi, Y2x (show (4 : Int) ≠ 0 by decide), Y2x (show (3 : Int) ≠ 0 by decide), f, g, t, u];exact Y8i (Q := fun o => Dr c o (QD 0)) (c := (c.1, p)) (m := 2 + (fr + i) % 4 / 3) j b om om om (fun D d k1 C => B (D, d, i + 1) ⟨k1, C, by simp only; omega⟩ gr)
  ·have e : i = n + 1 :=om;subst e;have G : QD 0 ((0, as, []) : Qry) := ⟨sm, by simp only; have := b.1; omega, fun a r => by have := b.2 a r; omega, sm⟩;obtain ⟨L, f, g⟩ := Y83 (N := N) G (by simp only; have := b.1; omega) (fun a r => (b.2 a r).2) y;simp [hi, J1, f];exact Dr.ret (c := c) (p := p) j g) N (F, [], 0) (by simp only; omega) ⟨q, ⟨rfl, sm⟩, sm⟩
 exact this
def qdB (q : Qry) : Bool := decide (q.1 <= 101) && (decide (1 <= q.2.1.length /\ q.2.1.length <= 100) && ((q.2.1.all fun a => decide (1 <= a.2.length /\ a.2.length <= 100)) && decide (q.2.2.length <= 0)))
theorem Y4c {q : Qry} (h : qdB q = true) : QD 0 q := by
 simp only [qdB, J8, J6, Jg] at h;exact ⟨h.1, h.2.1, h.2.2.1, h.2.2.2⟩
def okP (o : Option (Qry × Bool)) : Bool := match o with
 | some (q, b) => !b || qdB q
 | none => false
def okT (o : Option (Qry × Bool)) : Bool := match o with
 | some (q, b) => b && qdB q
 | none => false
theorem Y73 {o : Option (Qry × Bool)} (h : okP o = true) : ∃ q b, o = some (q, b) /\ (b = true -> QD 0 q) := by
 unfold okP at h;split at h
 ·rename_i q b;refine ⟨q, b, rfl, fun a => Y4c ?_⟩;subst a;simpa using h
 ·simp at h
theorem Y74 {o : Option (Qry × Bool)} (h : okT o = true) : ∃ q, o = some (q, true) /\ QD 0 q := by
 unfold okT at h;split at h
 ·rename_i q b;simp at h;obtain ⟨rfl, a⟩ := h;exact ⟨q, rfl, Y4c a⟩
 ·simp at h
def knownS : List ByteArray := [⟨#[63, 114, 120, 124, 121, 32, 115, 121, 124, 122]⟩, ⟨#[63, 114, 120, 124, 121, 32, 115, 121, 124, 120]⟩, ⟨#[63, 114, 120, 124, 121, 32, 115, 122, 124, 121]⟩, ⟨#[63, 114, 120, 124, 121, 32, 115, 120, 124, 122]⟩, ⟨#[63, 114, 120, 124, 49]⟩, ⟨#[63, 114, 120, 124, 120]⟩, ⟨#[63, 114, 120, 124, 121, 32, 115, 121, 124, 49]⟩, ⟨#[63, 114, 120, 124, 121, 32, 115, 121, 124, 122, 32, 114]⟩, ⟨#[63, 114, 120, 124, 121]⟩, ⟨#[63, 114, 120, 124, 122, 32, 115, 121, 124, 122]⟩]
theorem Y6f (M : Nat) : ((([(0, 1), (0, 2), (1, 1), (1, 2), (2, 1), (2, 2)] : List (Int × Int)).all fun z => okT (Z2j (M + 60) (rels4 z.1 z.2) ⟨#[63, 114, 120, 124, 121, 32, 115, 121, 124, 122]⟩) && knownS.all fun s => okP (Z2j (M + 60) (rels4 z.1 z.2) s))) = true := by
 kernel_rfl
theorem Y75 {l : List Rel} (c : RelsD l) (f : 1048576 < N) : (∃ q, Z2j N l ⟨#[63, 114, 120, 124, 121, 32, 115, 121, 124, 122]⟩ = some (q, true) /\ QD 0 q) /\ ∀ s ∈ knownS, ∃ q b, Z2j N l s = some (q, b) /\ (b = true -> QD 0 q) := by
 obtain ⟨_, _, x, y, g, i, rfl⟩ := c;obtain ⟨M, rfl⟩ : ∃ M, N = M + 60 := ⟨N - 60, om⟩;have h := Y6f M;rw [Jg] at h;have d : ((x, y) : Int × Int) ∈ ([(0, 1), (0, 2), (1, 1), (1, 2), (2, 1), (2, 2)] : List (Int × Int)) :=gr;have a := h _ d;simp at a;exact ⟨Y74 a.1, fun s e => Y73 (a.2 s e)⟩
theorem Y85 {c : Ctx} {l : List Rel} (h : COk c) (j : RelsD l) (g : 1048576 < N) : Dr c (Z67 N c l) (QD 0) := by
 obtain ⟨⟨n, d, f⟩, i⟩ := Y75 j g;refine (Y7v h (by decide)).bind fun p s a m => ?_;obtain ⟨q, b, e, k⟩ := i s m;simp only [e, J0];cases b with
 | true =>
  rw [Ja, J1];exact Dr.ret (c := c) a (k rfl)
 | false =>
  simp [J3, d];exact Dr.ret (c := c) a f
theorem Y6g {c : Ctx} {q : Qry} (h : COk c) (d : QD 0 q) (u : 1048576 < N) : Dr c (Z62 N N c.1 c.2.1 c.2.2 0 [] [] q.1 q.2.1 q.2.2 0) (QD 101) := by
 have t := d.vars;have m := d.free;have := Yr (fun K (s : (Int × Int) × List Int × Nat) => Z62 N K c.1 s.1.1 s.1.2 0 [] [] q.1 q.2.1 s.2.1 (s.2.2 : Int)) (fun s => COk (c.1, s.1) /\ s.2.1.length <= s.2.2 /\ s.2.2 <= 101) (fun s => 101 - s.2.2) (fun o => Dr c o (QD 101)) (fun K s r i => by
  obtain ⟨p, fr, v⟩ := s;obtain ⟨f, k, l⟩ := r;simp only at f k l ⊢;simp [Z62, Z9z];by_cases g : (v : Int) < q.1
  ·obtain ⟨j, b, e, a, _⟩ := Y1k (N := N) (c := (c.1, p.1, p.2)) (n := 3) f;simp [g, J3, e];cases b with
   | true =>
    rw [J3, Y3, grd_true, Y0];exact i (j, fr ++ [(v : Int)], v + 1) ⟨a, by simp; omega, by simp only; omega⟩ gr
   | false =>
    rw [J1, Y0];exact i (j, fr, v + 1) ⟨a, by simp only; omega, by simp only; omega⟩ gr
  ·simp [g, J1];exact Dr.ret (c := c) (p := p) f ⟨t, d.atoms, d.terms, by simp only; omega⟩) N (c.2, q.2.2, 0) (by simp only; omega) ⟨h, by simpa using m, sm⟩
 exact this
theorem Y7p {c : Ctx} {l : List Rel} (h : COk c) (n : RelsD l) (f : 1048576 < N) : Dr c (Z5r N c l) (QD 101) := by
 refine (Y84 h f).bind fun p q o k => ?_;refine (Y1k (c := (c.1, p)) o).bind fun m b d _ => ?_;cases b with
 | true =>
  rw [J3];refine (Y85 (c := (c.1, m)) d n f).bind fun r s i e => ?_;refine (Y1k (c := (c.1, r)) i).bind fun j g a _ => ?_;cases g with
  | true => rw [J3]; exact Y6g (c := (c.1, j)) a e f
  | false => rw [J1]; exact Dr.ret (c := c) a (e.mono om)
 | false =>
  rw [J1];refine (Y1k (c := (c.1, m)) d).bind fun j g a _ => ?_;cases g with
  | true => rw [J3]; exact Y6g (c := (c.1, j)) a k f
  | false => rw [J1]; exact Dr.ret (c := c) a (k.mono om)
theorem anyQ {c : Ctx} {l : List Rel} (h : COk c) (o : RelsD l) (n : 1048576 < N) : Dr c (Z7r N c l) (fun q => q.2.2.length <= 200) := by
 refine (Y7p h o n).bind fun p q r e => ?_;have s := e.atoms;have t := e.free;refine (Y7 (c := (c.1, p)) r).bind fun d x b v => ?_;cases (x == 0) with
 | true =>
  rw [J3];refine (Y1j (c := (c.1, d)) b sm).bind fun g y a f => ?_;exact Dr.ret (c := c) a gr
 | false =>
  rw [J1];cases (x == 1) with
  | true =>
   rw [J3];refine (Y7 (c := (c.1, d)) b).bind fun g y a f => ?_;simp only;rw [Y3, grd_true];exact Dr.ret (c := c) a (by simp only; omega)
  | false =>
   rw [J1];cases (x == 2) with
   | true =>
    have m : 0 < q.2.1.length :=om;have u := e.terms _ (J4 m);have j : inb 0 q.2.1 = true := Y8 om om;have k : at_ ((0, []) : Atm) q.2.1 0 = q.2.1[0] := Y18 om om;simp [J3, j, grd_true, k];refine (Y1j (c := (c.1, d)) b (by decide)).bind fun g y a f => ?_;simp only [Y8 (i := 0) (xs := (q.2.1[0]).2) om om, grd_true, letv_eq];exact Dr.ret (c := c) a (by simp only; omega)
   | false =>
    rw [J1];cases (x == 3) with
    | true =>
     rw [J3];refine (Y7 (c := (c.1, d)) b).bind fun g y a f => ?_;simp only;rw [Y3, grd_true];exact Dr.ret (c := c) a (by simp; omega)
    | false =>
     rw [J1];exact Dr.ret (c := c) b (by simp only; omega)
theorem cut1 {N K : Nat} {c : Ctx} {l : List Rel} {a : List Fact} (i : COk c) (j : RelsD l) (h : DbD 20 (l, a)) (q : 30 < K) : Dr c (Z75 N K c.1 c.2.1 c.2.2 [] [] l a) (fun d => RelsD d.1 /\ DbD 20 d) := by
 have := Yr (fun K (s : List Fact) => Z75 N K c.1 c.2.1 c.2.2 [] [] l s) (fun s => DbD 20 (l, s)) (fun s => s.length) (fun o => Dr c o (fun d => RelsD d.1 /\ DbD 20 d)) (fun K s b m => by
  have r : s.length <= 20 := b.facts;simp [Z75, Z0ak];by_cases g : (s.length : Int) > 9
  ·have e : w64 ((s.length : Int) - 1) = ((s.length - 1 : Nat) : Int) := Y9 om om;have n : subOk 0 ((s.length - 1 : Nat) : Int) s.length = true := by simp [subOk] <;> omega
   simp [g, J3, e, n, grd_true];refine m _ ⟨b.rels, ?_, fun f k => b.vals f (J1r k)⟩ gr;simp;omega
  ·simp [g, J1];exact Dr.ret (c := c) (p := c.2) i ⟨j, b⟩) K a (by have : a.length <= 20 := h.facts; omega) h
 exact this
theorem Y8s {c : Ctx} (h : COk c) (i : 1048576 < N) : Dr c (Z9q N c) (fun d => RelsD d.1 /\ DbD 20 d) := by
 refine (dbOk h i).bind fun p d g a => ?_;have l := a.2.facts;obtain ⟨M, rfl⟩ : ∃ M, N = M + 1 := ⟨N - 1, om⟩;simp [Z0a5, Z0al];by_cases b : (d.2.length : Int) > 9
 ·have e : w64 ((d.2.length : Int) - 1) = ((d.2.length - 1 : Nat) : Int) := Y9 om om;have k : subOk 0 ((d.2.length - 1 : Nat) : Int) d.2.length = true := by simp [subOk] <;> omega
  simp [b, J3, e, k, grd_true];refine cut1 (c := (c.1, p)) g a.1 ⟨a.2.rels, ?_, fun f j => a.2.vals f (J1r j)⟩ om;simp;omega
 ·simp [b, J1];exact Dr.ret (c := c) g a
theorem Y8j {code : List Int} (r : code.length <= 1048576) (a : 1048576 < N) : ∃ c d q, Z5s N code = some (c, d, q) /\ COk c /\ DbD 20 d /\ q.2.2.length <= 200 := by
 obtain ⟨c, m, e⟩ := Y8o (N := N) r a;obtain ⟨p, d, o, s, f⟩ := Y8s e a;obtain ⟨v, q, j, g, t⟩ := Y7p (N := N) (c := (c.1, p)) s f.1 a;obtain ⟨w, b, k, h, _⟩ := Y1k (N := N) (c := (c.1, v)) (n := 20) g;have x := t.free;unfold Z5s;simp only at j k;simp only [m, J0, o, j, k];cases b with
 | true =>
  obtain ⟨y, z, l, i, u⟩ := anyQ (N := N) (c := (c.1, w)) h f.1 a;simp only at l;simp only [zS, l];exact ⟨_, _, _, rfl, i, f.2, om⟩
 | false => grind
theorem Y8k {c : Ctx} (h : COk c) : Dr c (Z7s N c) (fun _ => True) := by
 refine (Y7 h).bind fun o v d _ => ?_;refine (Y7 (c := (c.1, o)) d).bind fun p w e _ => ?_;refine (Y7 (c := (c.1, p)) e).bind fun q x f _ => ?_;refine (Y7 (c := (c.1, q)) f).bind fun r z g _ => ?_;refine (Y7 (c := (c.1, r)) g).bind fun s A i _ => ?_;refine (Y7 (c := (c.1, s)) i).bind fun t B j _ => ?_;refine (Y7 (c := (c.1, t)) j).bind fun u C k _ => ?_;refine (Y7 (c := (c.1, u)) k).bind fun l m b _ => ?_;cases (m == 0) with
 | true =>
  rw [J3];refine (Y1j (c := (c.1, l)) b (by decide)).bind fun n y a _ => ?_;exact Dr.ret (c := c) a trivial
 | false =>
  rw [J1];cases (m == 1) with
  | true =>
   rw [J3];refine (Y1j (c := (c.1, l)) b (by decide)).bind fun n y a _ => ?_;exact Dr.ret (c := c) a trivial
  | false =>
   rw [J1];cases (m == 2) with
   | true =>
    rw [J3];refine (Y7 (c := (c.1, l)) b).bind fun n y a _ => ?_;exact Dr.ret (c := c) a trivial
   | false =>
    rw [J1];exact Dr.ret (c := c) b trivial
theorem Y8l {c : Ctx} (h : COk c) (q : 1048576 < N) : Dr c (Z8x N c) (fun l => l.length <= 3) := by
 refine (Y7 h).bind fun p n g r => ?_;obtain ⟨n, rfl⟩ : ∃ k : Nat, n = k := ⟨n.toNat, om⟩;have := Yr (fun K (s : (Int × Int) × List (Int × Int × Int × Int × Int × Int × Int) × Nat) => Z87 N K c.1 s.1.1 s.1.2 s.2.1 (s.2.2 : Int)) (fun s => COk (c.1, s.1) /\ s.2.1.length + s.2.2 <= 3) (fun s => s.2.2) (fun o => Dr c o (fun l => l.length <= 3)) (fun K s i j => by
  obtain ⟨p, l, k⟩ := s;obtain ⟨a, f⟩ := i;simp only at a f ⊢;simp only [Z87, Z0a9];by_cases d : (k : Int) > 0
  ·obtain ⟨m, x, e, b, _⟩ := Y8k (N := N) (c := (c.1, p.1, p.2)) a;simp only [zS, d, e];rw [Y3, grd_true, Y9 om om];exact j (m, l ++ [x], k - 1) ⟨b, by simp; omega⟩ gr
  ·simp only [zS, d];exact Dr.ret (c := c) (p := p) a om) N (p, [], n) (by simp only; omega) ⟨g, by simp; omega⟩
 exact this
theorem Y8m {code : List Int} (g : code.length <= 1048576) (b : 1048576 < N) : ∃ c d l q, Z5t N code = some (c, d, l, q) /\ COk c /\ DbD 20 d /\ l.length <= 3 /\ q.2.2.length <= 200 := by
 obtain ⟨c, d, q, e, a, h, k⟩ := Y8j (N := N) g b;obtain ⟨p, l, f, j, i⟩ := Y8l (N := N) a b;unfold Z5t;simp only [e, J0, f];exact ⟨_, d, l, q, rfl, j, h, i, k⟩
theorem Y5r {code : List Int} (e : code.length <= 1048576) (b : 1048576 < N) : ∃ d l q, Z0p N code = some (d, l, q) /\ DbD 20 d /\ l.length <= 3 /\ q.2.2.length <= 200 := by
 obtain ⟨c, d, l, q, a, f, g, h, i⟩ := Y8m (N := N) e b;unfold Z0p;simp only [a, J0];exact ⟨d, l, q, rfl, g, h, i⟩
theorem Y1b {c R : Type} {n m B lo : Nat} (piece : Nat -> List c) {f : Nat -> List c -> Int -> Option R} {g : List c -> Option R} (d : ∀ j, (piece j).length <= m) (b : ∀ k out, f (k + 1) out (n : Int) = g out)
  (a : ∀ k out j, lo <= j -> j < n -> out.length <= B -> f (k + 1) out (j : Int) = f k (out ++ piece j) ((j + 1 : Nat) : Int)) : ∀ {k j : Nat} {out : List c}, n - j < k -> lo <= j -> j <= n -> out.length + (n - j) * m <= B -> f k out (j : Int) = g (out ++ (List.range' j (n - j)).flatMap piece)
 | 0, j, out, hk, hlo, hj, hB => om
 | k + 1, j, out, hk, hlo, hj, hB => by
  by_cases h : j < n
  ·have e : n - j = (n - (j + 1)) + 1 :=om;rw [e, Nat.add_mul] at hB;have := d j;rw [a k out j hlo h om, Y1b piece d b a om om om gr];rw [e, List.range'_succ, J1n, J1d]
  ·have : j = n :=om;subst this;rw [b, Nat.sub_self]; simp
abbrev Con := Int × Int × Int × Int × Int × Int × Int
def arOf (d : Db) (r : Int) : Int := (d.1.getD r.toNat (⟨#[]⟩, 0, 0)).2.1
def inR (x a b : Int) : Bool := decide (a <= x /\ x <= b)
def conOk (d : Db) (x : Con) : Bool := inR x.1 0 ((d.1.length : Int) - 1) && (inR x.2.1 0 ((d.1.length : Int) - 1) && (inR x.2.2.1 0 (arOf d x.1 - 1) && (inR x.2.2.2.2.1 0 (arOf d x.1 - 1) && (inR x.2.2.2.1 0 (arOf d x.2.1 - 1) && (inR x.2.2.2.2.2.1 0 (arOf d x.2.1 - 1) && inR x.2.2.2.2.2.2 1 2)))))
theorem Yo {x a b : Int} (h : inR x a b = true) : a <= x /\ x <= b := by simpa [inR] using h
theorem Y5c {d : Db} {x : Con} (h : SmallDb d) (e : validDb d = true) (l : 1048576 < N) : Z1f N d x = some (conOk d x) := by
 have q := h.rels;have f := Y5 e;unfold Z1f conOk;rw [Yf h l, e, J0];simp only [zS, l1In];rw [Y6 (x := (d.1.length : Int) - 1)];rw [show ∀ a b c : Int, decide (a <= b /\ b <= c) = inR b a c from fun _ _ _ => rfl, show ∀ a b c : Int, decide (a <= b /\ b <= c) = inR b a c from fun _ _ _ => rfl];cases i : inR x.1 0 ((d.1.length : Int) - 1) with
 | false => rfl
 | true =>
  cases k : inR x.2.1 0 ((d.1.length : Int) - 1) with
  | false => rfl
  | true =>
   have m := Yo i;have n := Yo k;have g := Y1g (Yp f.rels (j := x.1.toNat) om);have a2 := Y1g (Yp f.rels (j := x.2.1.toNat) om);simp only [zS, Y8 m.1 (show x.1 < (d.1.length : Int) by omega), Y8 n.1 (show x.2.1 < (d.1.length : Int) by omega)];rw [show (at_ (⟨#[]⟩, (0, 0)) d.1 x.1).2.1 = arOf d x.1 from rfl, show (at_ (⟨#[]⟩, (0, 0)) d.1 x.2.1).2.1 = arOf d x.2.1 from rfl];have o : 1 <= arOf d x.1 /\ arOf d x.1 <= 3 := g;have p : 1 <= arOf d x.2.1 /\ arOf d x.2.1 <= 3 := a2;rw [Y6 (x := arOf d x.1 - 1), Y6 (x := arOf d x.2.1 - 1)];simp only [inR, Jb];cases decide (0 <= x.2.2.1 /\ x.2.2.1 <= arOf d x.1 - 1) <;> cases decide (0 <= x.2.2.2.2.1 /\ x.2.2.2.2.1 <= arOf d x.1 - 1) <;> cases decide (0 <= x.2.2.2.1 /\ x.2.2.2.1 <= arOf d x.2.1 - 1) <;> cases decide (0 <= x.2.2.2.2.2.1 /\ x.2.2.2.2.2.1 <= arOf d x.2.1 - 1) <;> rfl
theorem Y86 {d : Db} {x : Con} (h : SmallDb d) (b : validDb d = true) (a : 1048576 < N) : Z26 N d x = some (conOk d x) := by
 rw [<- Y5c h b a];unfold Z26 Z1f;rw [Yf h a, Y1u h a];simp [Yk, l1In]
def viol (d : Db) (x : Con) (i k : Nat) : Bool := conOk d x && (decide ((factAt d i).1 = x.1) && (decide ((factAt d k).1 = x.2.1) && (decide (at_ 0 (factAt d i).2 x.2.2.1 = at_ 0 (factAt d k).2 x.2.2.2.1) &&
 (if x.2.2.2.2.2.2 = 1 then decide (at_ 0 (factAt d i).2 x.2.2.2.2.1 = at_ 0 (factAt d k).2 x.2.2.2.2.2.1) else decide (at_ 0 (factAt d i).2 x.2.2.2.2.1 < at_ 0 (factAt d k).2 x.2.2.2.2.2.1)))))
theorem Y5d {d : Db} (a : ValidDb d) {x : Con} (b : conOk d x = true) {i k : Nat} (hi : i < d.2.length) (o : k < d.2.length) (m : (factAt d i).1 = x.1) (n : (factAt d k).1 = x.2.1) :
  inb x.2.2.1 (factAt d i).2 = true /\ inb x.2.2.2.2.1 (factAt d i).2 = true /\ inb x.2.2.2.1 (factAt d k).2 = true /\ inb x.2.2.2.2.2.1 (factAt d k).2 = true /\ (x.2.2.2.2.2.2 = 1 \/ x.2.2.2.2.2.2 = 2) := by
 unfold conOk at b;simp at b;obtain ⟨_, _, f, g, h, j, l⟩ := b;have p := Yo f;have q := Yo g;have r := Yo h;have s := Yo j;have t := Yo l;have c := (Yj a.rels (a.fact i hi)).len;have e := (Yj a.rels (a.fact k o)).len;rw [m] at c;rw [n] at e;have c : ((factAt d i).2.length : Int) = arOf d x.1 := c;have e : ((factAt d k).2.length : Int) = arOf d x.2.1 := e;exact ⟨Y8 p.1 om, Y8 q.1 om, Y8 r.1 om, Y8 s.1 om, om⟩
theorem Y2n {d : Db} {x : Con} (h : SmallDb d) (a : validDb d = true) (l : 1048576 < N) {i k : Nat} (hi : i < d.2.length) (b : k < d.2.length) (n : i ≠ k) : Z1b N d x i k = some (viol d x i k) := by
 have t := h.facts;have o := Y5 a;unfold Z1b viol;rw [Y5c h a l, J0];cases m : conOk d x with
 | false => rfl
 | true =>
  have f : (0 : Int) <= (i : Int) /\ (i : Int) <= (d.2.length : Int) - 1 :=om;have g : (0 : Int) <= (k : Int) /\ (k : Int) <= (d.2.length : Int) - 1 :=om;have j : ((i : Int) == (k : Int)) = false := by rw [beqI]; exact J7 om
  simp only [zS, l1In, Jb];rw [Y6 (x := (d.2.length : Int) - 1), J2 f, J2 g, j];simp only [zS, Y1 hi, Y1 b, Yc hi, Yc b, bneI];by_cases c : (factAt d i).1 = x.1
  ·by_cases e : (factAt d k).1 = x.2.1
   ·obtain ⟨k1, p, q, r, u⟩ := Y5d o m hi b c e;simp [c, e, J1, k1, p, q, r, grd_true];by_cases s : at_ 0 (factAt d i).2 x.2.2.1 = at_ 0 (factAt d k).2 x.2.2.2.1
    ·grind
    ·simp_all
   ·grind
  ·grind
theorem Y4d {d : Db} {x : Con} (h : SmallDb d) (a : validDb d = true) (m : 1048576 < N) {i k : Nat} (hi : i < d.2.length) (b : k < d.2.length) (p : i ≠ k) : Z1a N d x i k = some (viol d x i k) := by
 have w := h.facts;have q := Y5 a;unfold Z1a viol;rw [Y86 h a m, J0];cases n : conOk d x with
 | false => rfl
 | true =>
  have g : (0 : Int) <= (i : Int) /\ (i : Int) <= (d.2.length : Int) - 1 :=om;have j : (0 : Int) <= (k : Int) /\ (k : Int) <= (d.2.length : Int) - 1 :=om;have l : ((i : Int) != (k : Int)) = true := by rw [bneI, J7 om]; rfl
  simp only [zS, Yk, Jb, l];rw [Y6 (x := (d.2.length : Int) - 1), J2 g, J2 j];simp only [zS, Y1 hi, Y1 b, Yc hi, Yc b];have f : ∀ o : Option Bool, (o.bind fun u => some u) = o := fun o => gr;rw [f];unfold Z77;simp only [bneI];by_cases c : (factAt d i).1 = x.1
  ·by_cases e : (factAt d k).1 = x.2.1
   ·obtain ⟨k1, r, s, t, y⟩ := Y5d q n hi b c e;simp [c, e, J1, k1, r, s, t, grd_true];by_cases v : at_ 0 (factAt d i).2 x.2.2.1 = at_ 0 (factAt d k).2 x.2.2.2.1
    ·grind
    ·grind
   ·simp_all
  ·simp_all
def vany (d : Db) (l : List Con) (i k : Nat) : Bool := l.any fun x => viol d x i k || viol d x k i
def edge (d : Db) (l : List Con) (i k : Nat) : Bool := sameD d i k || vany d l i k
def edgeP (d : Db) (l : List Con) (i k : Nat) : List (Int × Int) := if edge d l i k then [((i : Int), (k : Int))] else []
def edgeR (d : Db) (l : List Con) (i : Nat) : List (Int × Int) := (List.range' (i + 1) (d.2.length - (i + 1))).flatMap (edgeP d l i)
def edgesOf (d : Db) (l : List Con) : List (Int × Int) := (List.range d.2.length).flatMap (edgeR d l)
theorem Y1x (d : Db) (l : List Con) (i k : Nat) : (edgeP d l i k).length <= 1 := by unfold edgeP; split <;> simp
theorem Y1y {b : Type} {piece : Nat -> List b} {m : Nat} (h : ∀ k, (piece k).length <= m) (s n : Nat) : ((List.range' s n).flatMap piece).length <= n * m := by
 have := Yl (piece := piece) (n := m) (a := List.range' s n) (fun x _ => h x);simpa using this
theorem Y1z {d : Db} (a : ValidDb d) (l : List Con) (i : Nat) : (edgeR d l i).length <= 14 := by
 have := Y1y (Y1x d l i) (i + 1) (d.2.length - (i + 1));have := a.few;unfold edgeR; omega
theorem Y6h {d : Db} (b : ValidDb d) (l : List Con) : (edgesOf d l).length <= 196 := by
 have := Yl (piece := edgeR d l) (n := 14) (a := List.range d.2.length) (fun x _ => Y1z b l x);have := b.few;simp only [Js] at *;unfold edgesOf;omega
theorem Y2o {a : Type} {l : List a} {p : a -> Bool} {j : Nat} (h : j < l.length) : (l.drop j).any p = (p l[j] || (l.drop (j + 1)).any p) := by rw [J9 h, List.any_cons]
theorem Y14 {d : Db} {k : Nat} (a : k < d.2.length) : factAt d k ∈ d.2 := by unfold factAt; rw [Y2 a]; exact J4 a
theorem Y1c {N : Nat} {d : Db} {l : List Con} (h : SmallDb d) (n : l.length <= 1048576) (a : validDb d = true) (e : 1048576 < N) {i k : Nat} (b : i < k) (g : k < d.2.length) (Rc : List Con -> List Rel -> List Fact -> List (Int × Int) -> Int -> Int -> Option (List (Int × Int))) {out : List (Int × Int)} (o : out.length <= 1000) :
  ∀ {f j : Nat} {is_ : Bool}, l.length - j < f -> j <= l.length -> Z3c Rc N f l d.1 d.2 out i k is_ (j : Int) = Rc l d.1 d.2 (out ++ (if is_ || (l.drop j).any (fun x => viol d x i k || viol d x k i) then [((i : Int), (k : Int))] else [])) i ((k + 1 : Nat) : Int)
 | 0, j, is_, hf, hj => om
 | f + 1, j, is_, hf, hj => by
  have few := (Y5 a).few;by_cases c : j < l.length
  ·have m : (j : Int) < (l.length : Int) :=om;simp only [zS, Z3c, Z52, m, Y0 (j := j), Y1 c, Y4 c];rw [Y2o c];cases is_ with
   | true =>
    rw [J3, Y1c h n a e b g Rc o om om];simp
   | false =>
    have q := Y2n (x := l[j]) h a e (i := i) (k := k) om g om;have r := Y2n (x := l[j]) h a e (i := k) (k := i) g om om;rw [J1];erw [q];rw [J0];cases p : viol d l[j] i k with
    | true =>
     rw [J3, Y1c h n a e b g Rc o om om];simp
    | false =>
     rw [J1];erw [r];rw [J0, Y1c h n a e b g Rc o om om];simp only [Jt]
  ·have : j = l.length :=om;subst this;have m : ¬ (l.length : Int) < (l.length : Int) :=om;simp only [zS, Z3c, Z52, m, Y0 (j := k), J1f, List.any_nil, J1x];cases is_ with
   | true =>
    have : appOk out [((i : Int), (k : Int))] 16 = true := Y49 gr;rw [J3, this, grd_true, Jc rfl]
   | false => simp
theorem Y6i {d : Db} {l : List Con} (h : SmallDb d) (r : l.length <= 1048576) (b : validDb d = true) (p : 1048576 < N) {i : Nat} (hi : i < d.2.length) (R0 : List Con -> List Rel -> List Fact -> List (Int × Int) -> Int -> Option (List (Int × Int))) {out : List (Int × Int)} (s : out.length <= 500) :
  Z17 R0 N N l d.1 d.2 out i ((i + 1 : Nat) : Int) = R0 l d.1 d.2 (out ++ edgeR d l i) ((i + 1 : Nat) : Int) := by
 have few := (Y5 b).few;have o := Y5 b;refine Y1b (n := d.2.length) (m := 1) (B := 1000) (edgeP d l i) (f := fun k out j => Z17 R0 N k l d.1 d.2 out i j) (g := fun out => R0 l d.1 d.2 out ((i + 1 : Nat) : Int)) (Y1x d l i) (fun k out => by
  have e : ¬ (d.2.length : Int) < (d.2.length : Int) :=om;simp only [zS, Z17, Z53, e, Y0 (j := i)]) (lo := i + 1) (fun f out k a c q => ?_) om om om om
 have a : i < k := a;have e : (k : Int) < (d.2.length : Int) :=om;simp only [zS, Z17, Z53, e, Y1 hi, Y1 c, Yc hi, Yc c];rw [Y47 h.rels (h.vals _ (Y14 hi)) (h.vals _ (Y14 c)) p o.rels (o.fact i hi) (o.fact k c), J0];have := Y1c h r b p a c (Z17 R0 N f) q (f := N) (j := 0) (is_ := sameK d.1 (factAt d i) (factAt d k)) om om;rw [show ((0 : Nat) : Int) = 0 from rfl] at this;rw [this, J1u];rfl
theorem Y3k {d : Db} {l : List Con} (h : SmallDb d) (p : l.length <= 1048576) (e : 1048576 < N) : Z1g N d l = some (if validDb d then edgesOf d l else []) := by
 have s := h.facts;unfold Z1g Z8o;cases a : validDb d with
 | false =>
  obtain ⟨n, rfl⟩ : ∃ n, N = n + 1 := ⟨N - 1, om⟩;simp only [Z1n, Z3w];have := Yf h e;rw [a] at this;have this : Z0 (n + 1) (d.1, d.2) = some false := this;rw [this];by_cases q : (0 : Int) < (d.2.length : Int)
  ·grind
  ·grind
 | true =>
  have o := Y5 a;have few := o.few;rw [Jc rfl];have := Y1b (n := d.2.length) (m := 14) (B := 400) (lo := 0) (edgeR d l) (f := fun k out j => Z1n N k l d.1 d.2 out j) (g := fun out => some out) (Y1z o l) (fun k out => by
   have c : ¬ (d.2.length : Int) < (d.2.length : Int) :=om;simp [Z1n, Z3w, c, J1]) (fun f out i _ hi r => by
   have c : (i : Int) < (d.2.length : Int) :=om;have b := Yf h e;rw [a] at b;have b : Z0 N (d.1, d.2) = some true := b;simp only [zS, Z1n, Z3w, c, b, Y0 (j := i)];rw [Y6i h p a e hi _ om]) (k := N) (j := 0) (out := []) om om om (by simp; omega)
  rw [show ((0 : Nat) : Int) = 0 from rfl] at this;rw [this, J1i, Nat.sub_zero, <- List.range_eq_range'];rfl
theorem Y6j {d : Db} {l : List Con} (h : SmallDb d) (v : l.length <= 1048576) (a : validDb d = true) (e : 1048576 < N) {i k : Nat} (q : i < k) (b : k < d.2.length) : Z2e N i k l d = some (edge d l i k) := by
 have m := Y5 a;have o : ∀ {f j : Nat}, l.length - j < f -> j <= l.length -> Z2d N f i k d.1 d.2 l (l.length : Int) (j : Int) = some ((l.drop j).any (fun x => viol d x i k || viol d x k i) || sameD d i k) := by
  intro f
  induction f with
  | zero => intro j p r; omega
  | succ f w =>
   intro j p r;by_cases c : j < l.length
   ·have g : (j : Int) < (l.length : Int) :=om;have n := Y2n (x := l[j]) h a e (i := i) (k := k) om b om;have n := Y4d (x := l[j]) h a e (i := i) (k := k) om b om;have u := Y4d (x := l[j]) h a e (i := k) (k := i) b om om;simp only [zS, Z2d, Z4b, g, Y0 (j := j), Y1 c, Y4 c];rw [Y2o c];erw [n];rw [J0];cases s : viol d l[j] i k with
    | true => simp
    | false =>
     rw [J1];erw [u];rw [J0];cases t : viol d l[j] k i with
     | true => simp
     | false => grind
   ·have : j = l.length :=om;subst this;have g : ¬ (l.length : Int) < (l.length : Int) :=om;have hi : i < d.2.length :=om;simp only [zS, Z2d, Z4b, g, J1f, List.any_nil, Jt, Y1 hi, Y1 b, Yc hi, Yc b];rw [Y6z (h.vals _ (Y14 hi)) (h.vals _ (Y14 b)) e m.rels (m.fact i hi) (m.fact k b)];rfl
 unfold Z2e Z72;have := o (f := N) (j := 0) om om;rw [show ((0 : Nat) : Int) = 0 from rfl] at this;rw [this, J1u, Bool.or_comm];rfl
theorem Y6k {d : Db} {l : List Con} (h : SmallDb d) (p : l.length <= 1048576) (b : validDb d = true) (e : 1048576 < N) {i : Nat} (hi : i < d.2.length) (R0 : Int -> List Con -> Db -> List (Int × Int) -> Int -> Int -> Option (List (Int × Int))) {out : List (Int × Int)} (r : out.length <= 500) :
  Z0s R0 N N (d.2.length : Int) l d out i ((i + 1 : Nat) : Int) (d.2.length : Int) i = R0 (d.2.length : Int) l d (out ++ edgeR d l i) (d.2.length : Int) ((i + 1 : Nat) : Int) := by
 have few := (Y5 b).few;refine Y1b (n := d.2.length) (m := 1) (B := 1000) (edgeP d l i) (f := fun k out j => Z0s R0 N k (d.2.length : Int) l d out i j (d.2.length : Int) i) (g := fun out => R0 (d.2.length : Int) l d out (d.2.length : Int) ((i + 1 : Nat) : Int)) (Y1x d l i) (fun k out => by
  have c : ¬ (d.2.length : Int) < (d.2.length : Int) :=om;simp only [zS, Z0s, Z2u, c, Y0 (j := i)]) (lo := i + 1) (fun f out k a o q => ?_) om om om om
 have a : i < k := a;have c : (k : Int) < (d.2.length : Int) :=om;simp only [zS, Z0s, Z2u, c, Y6j h p b e a o, Y0 (j := k)];unfold edgeP;cases edge d l i k with
 | true =>
  have : appOk out [((i : Int), (k : Int))] 16 = true := Y49 (by simp; omega);rw [J3, this, grd_true, Jc rfl]
 | false => simp
theorem Y6l {d : Db} {l : List Con} (h : SmallDb d) (o : l.length <= 1048576) (c : 1048576 < N) : Z3f N d l = some (if validDb d then edgesOf d l else []) := by
 have q := h.facts;unfold Z3f;rw [Y1u h c, J0];cases a : validDb d with
 | false => rfl
 | true =>
  have e := Y5 a;have few := e.few;rw [Jc rfl, Ja, J1];unfold Z1m Z4z;have := Y1b (n := d.2.length) (m := 14) (B := 400) (lo := 0) (edgeR d l) (f := fun k out j => Z0t N k (d.2.length : Int) l d out (d.2.length : Int) j) (g := fun out => some out) (Y1z e l) (fun k out => by
   have b : ¬ (d.2.length : Int) < (d.2.length : Int) :=om;simp [Z0t, Z2v, b, J1]) (fun f out i _ hi p => by
   have b : (i : Int) < (d.2.length : Int) :=om;simp only [zS, Z0t, Z2v, b, Y0 (j := i)];rw [Y6k h o a c hi _ om]) (k := N) (j := 0) (out := []) om om om (by simp; omega)
  rw [show ((0 : Nat) : Int) = 0 from rfl] at this;rw [this, J0, J1i, Nat.sub_zero, <- List.range_eq_range'];rfl
theorem Y4e (s : List Int) (v : Int) : (s.any fun x => decide (v = x)) = decide (v ∈ s) :=gr
theorem Y5e {s : List Int} {v : Int} (e : s.length <= 1048576) (c : 1048576 < N) : Z0l N s v = some (decide (v ∈ s)) := by
 unfold Z0l Z39 Z73;rw [Yv (d := (0 : Int)) (xs := s) (p := fun x => decide (v = x)) (first (n := s.length) (fun j => decide (v = s.getD j 0)) (fun k i => Z2f N k s v (s.length : Int) i) (fun k => by simp [Z2f, Z4c]) (fun k j a => ?_) om), Y4e];have b : (j : Int) < (s.length : Int) :=om;simp only [zS, Z2f, Z4c, b, Y1 a, Y4 a, Y2 a, Y0 (j := j), beqI];cases decide (v = s[j]) <;> rfl
theorem Y3g {s : List Int} {v : Int} (e : s.length <= 1048576) (d : 1048576 < N) : Z4d N s v = some (decide (v ∈ s)) := by
 unfold Z4d Z0c1;rw [Yb (n := s.length) (fun j => !decide (s.getD j 0 = v)) (some true) (some false) (fun k i => Z79 N k s v i) (fun k => by simp [Z79, Z9a]) (fun k j a => ?_) om]
 ·by_cases h : v ∈ s
  ·rw [J2 h];obtain ⟨j, a, rfl⟩ := Jd.1 h;rw [Jn (fun c => gr)]
  ·grind
 ·have b : (j : Int) < (s.length : Int) :=om;simp only [zS, Z79, Z9a, b, Y1 a, Y4 a, Y2 a, Y0 (j := j), beqI];cases decide (s[j] = v) <;> simp
structure Good (n : Int) (c : List Int) : Prop where
 lit : ∀ x ∈ c, x ≠ 0 /\ -n <= x /\ x <= n
 one : c.Pairwise fun x y => x ≠ y /\ x ≠ -y
theorem Y4f : ∀ (n : Nat) (l : List Nat), l.Nodup -> (∀ x ∈ l, 1 <= x /\ x <= n) -> l.length <= n
 | 0, l, _, h => by
  cases l with
  | nil => simp
  | cons x l => have := h x sm; omega
 | n + 1, l, hn, h => by
  have := Y4f n (l.erase (n + 1)) (hn.erase _) (fun x a => gr);rw [List.length_erase] at this;split at this <;> omega
theorem Good.few {n : Int} {c : List Int} (f : 0 <= n) (h : Good n c) : (c.length : Int) <= n := by
 have := Y4f n.toNat (c.map Int.natAbs) (by
  unfold List.Nodup;rw [J11];exact h.one.imp (fun {x y} b e => om)) (fun x a => by
  obtain ⟨y, d, rfl⟩ := Je.1 a;have := h.lit y d;omega)
 rw [Jr] at this;omega
structure EOk (n : Nat) (E : List (Int × Int)) : Prop where
 few : n <= 14
 len : E.length <= 196
 all : ∀ e ∈ E, 0 <= e.1 /\ e.1 < e.2 /\ e.2 < (n : Int)
def ordE (E : List (Int × Int)) (j : Nat) : Bool := decide (j = 0) || (let a := E.getD j (0, 0); let b := E.getD (j - 1) (0, 0); decide (b.1 < a.1) || (decide (b.1 = a.1) && decide (b.2 < a.2)))
def validE (E : List (Int × Int)) : Bool := decide (∀ j, j < E.length -> ordE E j = true)
theorem in14 {n : Nat} (h : n <= 14) : decide ((0 : Int) <= (n : Int) /\ (n : Int) <= 14) = true := J2 om
theorem Y6m {N n : Nat} {E : List (Int × Int)} (h : EOk n E) (o : 1048576 < N) : Z21 N n E = some (validE E) := by
 have p := h.few;have q := h.len;unfold Z21 Z8p;rw [Yb (n := E.length) (ordE E) (some false) (some true) (fun k i => Z3d N k n E i) (fun k => by simp [Z3d, Z54, l1In]; omega) (fun k j b => ?_) om]
 ·unfold validE;split
  ·rename_i a; rw [J2 a]
  ·rename_i a; rw [J7 a]
 ·have f : (j : Int) < (E.length : Int) :=om;have l := h.all _ (J4 b);have d : decide (0 <= E[j].1 /\ E[j].1 <= E[j].2 - 1) = true := J2 om;have e : decide (0 <= E[j].2 /\ E[j].2 <= (n : Int) - 1) = true := J2 om;simp only [zS, Z3d, Z54, f, Y1 b, Y4 b, l1In, Y0 (j := j), Y6 (x := E[j].2 - 1), Y6 (x := (n : Int) - 1), d, e];by_cases c : j = 0
  ·subst c; simp [ordE]
  ·have g : (j : Int) > 0 :=om;have a : j - 1 < E.length :=om;simp only [zS, g, Y9 (show 0 < j by omega) om, Y1 a, Y4 a, ordE, c, Jt, Y2 a, Y2 b, beqI];by_cases m : E[j].1 < E[j - 1].1
   ·grind
   ·grind
theorem Y6n {N n : Nat} {E : List (Int × Int)} (h : EOk n E) (r : 1048576 < N) : Z1y N n E = some (validE E) := by
 have p := h.few;have s := h.len;unfold Z1y Z8k;rw [Yk, J0, in14 p, Ja, J1];rw [Yb (n := E.length) (ordE E) (some false) (some true) (fun k i => Z38 N k n E E (E.length : Int) i) (fun k => by simp [Z38, Z51]) (fun k j a => ?_) om]
 ·unfold validE;split
  ·simp_all
  ·simp_all
 ·have l : (j : Int) < (E.length : Int) :=om;have q := h.all _ (J4 a);have e : ¬ E[j].1 < 0 :=om;have f : ¬ E[j].1 >= E[j].2 :=om;have g : ¬ E[j].2 >= (n : Int) :=om;simp only [zS, Z38, Z51, l, Y1 a, Y4 a, Y0 (j := j), e, f, g];by_cases c : j = 0
  ·subst c; simp [ordE]
  ·have m : (j : Int) > 0 :=om;have b : j - 1 < E.length :=om;simp only [zS, m, Y9 (show 0 < j by omega) om, Y1 b, Y4 b, ordE, c, Jt, Y2 b, Y2 a, beqI];by_cases o : E[j - 1].1 > E[j].1
   ·have d : ¬ E[j - 1].1 < E[j].1 :=om;have a2 : ¬ E[j - 1].1 = E[j].1 :=om;simp [o, d, a2]
   ·grind
def indep (E : List (Int × Int)) (s : List Int) : Bool := E.all fun e => !(decide (e.1 ∈ s) && decide (e.2 ∈ s))
theorem Y76 {a : Type} {xs : List a} {p : a -> Bool} (d : a) : xs.all p = decide (∀ j, j < xs.length -> p (xs.getD j d) = true) := by
 rw [J1h, J6, Jg];constructor
 ·grind
 ·intro h x c;obtain ⟨j, b, rfl⟩ := Jd.1 c;have := h j b
  rwa [Y2 b] at this
theorem Y5f {E : List (Int × Int)} {s : List Int} (d : E.length <= 196) (e : s.length <= 1000) (c : 1048576 < N) : Z22 N E s = some (indep E s) := by
 unfold Z22 Z8r indep;rw [Y76 (0, 0), Yb (n := E.length) (fun j => !(decide ((E.getD j (0, 0)).1 ∈ s) && decide ((E.getD j (0, 0)).2 ∈ s))) (some false) (some true) (fun k i => Z3e N k E s i) (fun k => by simp [Z3e, Z55]) (fun k j a => ?_) om]
 ·grind
 ·have b : (j : Int) < (E.length : Int) :=om;simp only [zS, Z3e, Z55, b, Y1 a, Y4 a, Y2 a, Y0 (j := j), Y3g (s := s) om c];cases decide (E[j].1 ∈ s) <;> cases decide (E[j].2 ∈ s) <;> rfl
theorem Y3h {E : List (Int × Int)} {s : List Int} (f : E.length <= 196) (g : s.length <= 1000) (c : 1048576 < N) : Z10 N E s = some (indep E s) := by
 unfold Z10 Z3 Z4 Z0q;rw [Yv (d := ((0, 0) : Int × Int)) (xs := E) (p := fun e => decide (e.1 ∈ s) && decide (e.2 ∈ s)) (first (n := E.length) (fun j => decide ((E.getD j (0, 0)).1 ∈ s) && decide ((E.getD j (0, 0)).2 ∈ s)) (fun k i => Z2 N k E s (E.length : Int) i) (fun k => by simp [Z2, Z9]) (fun k j a => ?_) om), J0]
 ·unfold indep;rw [List.all_eq_not_any_not];simp
 ·have b : (j : Int) < (E.length : Int) :=om;simp only [zS, Z2, Z9, Z3a, b, Y1 a, Y4 a, Y2 a, Y0 (j := j), Y5e (s := s) om c];cases decide (E[j].1 ∈ s) <;> cases decide (E[j].2 ∈ s) <;> rfl
def fitsE (E : List (Int × Int)) (s : List Int) (x : Int) : Bool := !decide (x ∈ s) && indep E (s ++ [x])
theorem Y4g {E : List (Int × Int)} {s : List Int} {x : Int} (b : E.length <= 196) (c : s.length <= 900) (a : 1048576 < N) : Z5o N E s x = some (fitsE E s x) := by
 unfold Z5o fitsE;rw [Y3g om a, J0];cases decide (x ∈ s) with
 | true => rfl
 | false =>
  rw [Jw, J3, Y3, Y3, Y5f b gr a];rfl
theorem Y77 {N n : Nat} {l : List Int} (m : n <= 1048576) (h : l.length <= 1048576) (g : 1048576 < N) : Z8q N n l = some (validSet n l) := by
 unfold Z8q Z0c0;rw [Yb (n := l.length) (fun j => decide (0 <= l.getD j 0 /\ l.getD j 0 <= (n : Int) - 1) && (decide (j = 0) || decide (l.getD (j - 1) 0 < l.getD j 0))) (some false) (some true) (fun k i => Z78 N k (n : Int) l i)
  (fun k => by simp [Z78, Z99]) (fun k j b => ?_) om]
 ·unfold validSet;split
  ·rename_i a; rw [J2 a]
  ·rename_i a; rw [J7 a]
 ·have d : (j : Int) < (l.length : Int) :=om;simp only [zS, Z78, Z99, d, Y1 b, Y4 b, l1In, Y2 b, Y0 (j := j), Y6 (show -9223372036854775808 <= (n : Int) - 1 by omega) om];cases decide (0 <= l[j] /\ l[j] <= (n : Int) - 1) with
  | false => rfl
  | true =>
   simp only [zS, Jb];by_cases c : j = 0
   ·subst c; simp
   ·have e : (j : Int) > 0 :=om;have a : j - 1 < l.length :=om;simp only [zS, e, Y9 (show 0 < j by omega) om, Y1 a, Y4 a, c, Jt, Y2 a];by_cases f : l[j - 1] < l[j]
    ·grind
    ·grind
def maxI (n : Nat) (E : List (Int × Int)) (s : List Int) : Bool := validE E && (validSet n s && (indep E s && decide (∀ x, x < n -> (!fitsE E s x) = true)))
theorem Y87 {N n : Nat} {E : List (Int × Int)} {s : List Int} (h : EOk n E) (c : s.length <= 900) (a : 1048576 < N) : Z1e N n E s = some (maxI n E s) := by
 have d := h.few;unfold Z1e Z60 maxI;rw [Y6m h a, Y77 om om a, Y5f h.len om a, J0, J0, J0];cases validE E with
 | false => rfl
 | true =>
  cases validSet n s with
  | false => rfl
  | true =>
   cases indep E s with
   | false => rfl
   | true =>
    simp only [zS, Jb];refine Y41 (n := n) (fun x => !fitsE E s x) (fun k i => Z1i N k n E s i) (fun k => by simp [Z1i, Z37]) (fun k j e => ?_) om;have b : (j : Int) < (n : Int) :=om;simp only [zS, Z1i, Z37, b, Y4g h.len c a, Y0 (j := j)];cases fitsE E s j <;> simp
theorem Y17 {s : List Int} (a : s.length <= 1000) : Z14 N s = some s := by
 unfold Z14;rw [J2 om, grd_true]
theorem Y88 {N n : Nat} {E : List (Int × Int)} {s : List Int} (h : EOk n E) (e : s.length <= 900) (a : 1048576 < N) : Z1d N n E s = some (maxI n E s) := by
 have c := h.few;unfold Z1d Z5u Z3b maxI;rw [Y6n h a, Y3f om om a, Y3h h.len om a, J0, J0, J0];cases validE E with
 | false => rfl
 | true =>
  cases validSet n s with
  | false => rfl
  | true =>
   cases indep E s with
   | false => rfl
   | true =>
    simp only [zS, Jb];refine Y41 (n := n) (fun x => !fitsE E s x) (fun k i => Z1h N k E s n i) (fun k => by simp [Z1h, Z34]) (fun k j d => ?_) om;have b : (j : Int) < (n : Int) :=om;simp only [zS, Z1h, Z34, b, Y5e (s := s) om a, Y0 (j := j), Y17 (N := N) (s := s) om];rw [Y3, grd_true, Y3h h.len gr a, J0];unfold fitsE;cases decide ((j : Int) ∈ s) <;> cases indep E (s ++ [(j : Int)]) <;> simp
def walk (n : Nat) (E : List (Int × Int)) : Nat -> List Int -> Nat -> List (List Int)
 | 0, s, x => if maxI n E s then [s] else []
 | m + 1, s, x => (if indep E (s ++ [(x : Int)]) then walk n E m (s ++ [(x : Int)]) (x + 1) else []) ++ walk n E m s (x + 1)
theorem Yt {n : Nat} {E : List (Int × Int)} : ∀ (m : Nat) (s : List Int) (x : Nat), (walk n E m s x).length <= 2 ^ m
 | 0, s, x => by simp [walk]; split <;> simp
 | m + 1, s, x => by
  have a := Yt (n := n) (E := E) m (s ++ [(x : Int)]) (x + 1);have b := Yt (n := n) (E := E) m s (x + 1);simp [walk];split
  ·omega
  ·simp; omega
theorem Y2p {n : Nat} {E : List (Int × Int)} : ∀ (m : Nat) (s : List Int) (x : Nat), s.length <= x -> ∀ r ∈ walk n E m s x, r.length <= x + m
 | 0, s, x, hs, r, a => by
  simp only [walk] at a;split at a
  ·grind
  ·simp at a
 | m + 1, s, x, hs, r, a => by
  simp only [walk, Jv] at a;rcases a with a | a
  ·split at a
   ·have := Y2p m (s ++ [(x : Int)]) (x + 1) (by simp; omega) r a;omega
   ·simp at a
  ·have := Y2p m s (x + 1) om r a;omega
def touch (x : Int) (e : Int × Int) : Bool := decide (e.1 = x) || decide (e.2 = x)
theorem Y5s {E : List (Int × Int)} {s : List Int} {y : Int} (h : E.any (touch y) = false) (hi : indep E s = true) : indep E (s ++ [y]) = true := by
 unfold indep at *;rw [Jg] at *;intro e d;have c := hi e d;have b : ¬ (touch y e = true) := fun a => gr;have a : e.1 ≠ y /\ e.2 ≠ y := by
  simp [touch] at b;exact b
 have f : (e.1 ∈ s ++ [y]) ↔ e.1 ∈ s := by simp [a.1]
 have g : (e.2 ∈ s ++ [y]) ↔ e.2 ∈ s := by simp [a.2]
 simp only [f, g];exact c
theorem Y20 {n : Nat} {E : List (Int × Int)} {y : Nat} (b : y < n) (h : E.any (touch y) = false) : ∀ (m : Nat) (s : List Int) (x : Nat), y < x -> (y : Int) ∉ s -> walk n E m s x = []
 | 0, s, x, hx, hs => by
  simp only [walk];rw [Jn];intro a;simp [maxI] at a;have := a.2.2.2 y b;rw [fitsE, J7 hs, Y5s h a.2.2.1] at this;simp at this
 | m + 1, s, x, hx, hs => by
  simp only [walk];rw [Y20 b h m s (x + 1) om hs, Jk];split
  ·exact Y20 b h m _ (x + 1) om (by simp; exact ⟨hs, om⟩)
  ·rfl
theorem Y2d {N : Nat} {E : List (Int × Int)} (a : E.length <= 196) (Rf : Int -> List (Int × Int) -> List Int -> Int -> Option (List (List Int))) (n : Int) (s : List Int) (x : Nat) (b : x <= 1000) (out : List (List Int)) :
  ∀ {f j : Nat} {met : Bool}, E.length - j < f -> j <= E.length -> Z5f N Rf f n E s x out met (j : Int) = bif met || (E.drop j).any (touch x) then ((Rf n E s ((x + 1 : Nat) : Int)).bind fun c => grd (appOk out c 24) <| some (out ++ c)) else some out
 | 0, j, met, hf, hj => om
 | f + 1, j, met, hf, hj => by
  by_cases h : j < E.length
  ·have d : (j : Int) < (E.length : Int) :=om;simp only [zS, Z5f, Z8s, d, Y1 h, Y4 h, Y0 (j := j)];rw [Y2o h];cases met with
   | true => rw [J3, Y2d a Rf n s x b out om h]; rfl
   | false =>
    rw [J1, beqI, beqI];unfold touch;cases decide (E[j].1 = (x : Int)) with
    | true => rw [J3, Y2d a Rf n s x b out om h]; rfl
    | false =>
     rw [J1, Y2d a Rf n s x b out om h];simp;rfl
  ·have : j = E.length :=om;subst this;simp only [zS, Z5f, Z8s, J10, J1f, List.any_nil, J1x, Y0 (j := x)]
theorem Y5t {m : Nat} (h : m <= 14) : 2 ^ m <= 16384 := Nat.pow_le_pow_right (n := 2) (by decide) h
theorem Y2q {N n : Nat} {E : List (Int × Int)} (h : EOk n E) (b : 1048576 < N) : ∀ (m f : Nat) (s : List Int) (x : Nat), m < f -> x + m = n -> s.length <= x -> (∀ y ∈ s, y < (x : Int)) -> Z3k N f n E s x = some (walk n E m s x)
 | _, 0, _, _, hf, _, _, _ => om
 | 0, f + 1, s, x, hf, hx, hl, hs => by
  have e := h.few;obtain rfl : x = n :=om;simp only [zS, Z3k, Z0a6, beqI, Y87 h (s := s) om b, walk];cases maxI x E s with
  | true => rw [J3, Y3]; rfl
  | false => rfl
 | m + 1, f + 1, s, x, hf, hx, hl, hs => by
  have e := h.few;have d : ¬ (x : Int) = (n : Int) :=om;have a : (x : Int) ∉ s := fun o => gr;have k := Y2q h b m f (s ++ [(x : Int)]) (x + 1) om om (by simp; omega) (fun y i => gr);have l := Y2q h b m f s (x + 1) om om om (fun y i => gr);have q := Yt (n := n) (E := E) m (s ++ [(x : Int)]) (x + 1);have r := Yt (n := n) (E := E) m s (x + 1);have t := Y5t (m := m) om;have c : ∀ out : List (List Int), out.length <= 16384 -> Z5f N (Z3k N f) N n E s x out false 0 = some (out ++ walk n E m s (x + 1)) := by
   intro out p;have := Y2d (N := N) h.len (Z3k N f) n s x om out (f := N) (j := 0) (met := false) (by have := h.len; omega) om;rw [show ((0 : Nat) : Int) = 0 from rfl] at this;rw [this, J1u, Jt, l, J0, Y3, grd_true];cases g : E.any (touch x) with
   | true => rfl
   | false => rw [J1, Y20 om g m s (x + 1) om a, Jk]
  simp only [zS, Z3k, Z0a6, beqI, J7 d, Y4g h.len (show s.length <= 900 by omega) b, fitsE, J7 a, Jb, walk];cases indep E (s ++ [(x : Int)]) with
  | true =>
   rw [J3, Y3, Y3, grd_true, grd_true, Y0, k, J0, c _ om];rfl
  | false => grind
theorem Y1q {N n : Nat} {E : List (Int × Int)} (h : EOk n E) (a : 1048576 < N) : ∀ (m f : Nat) (s : List Int) (x : Nat) (out : List (List Int)), m < f -> x + m = n -> s.length <= x -> out.length + 2 ^ m <= 100000 -> Z0m N f x s n E out n E = some (out ++ walk n E m s x)
 | _, 0, _, _, _, hf, _, _, _ => om
 | 0, f + 1, s, x, out, hf, hx, hl, ho => by
  have c := h.few;obtain rfl : x = n :=om;simp only [zS, Z0m, Z2w, beqI, Y88 h (s := s) om a, walk];cases maxI x E s with
  | true => rw [J3, Y3, Y3 om gr]; rfl
  | false => simp
 | m + 1, f + 1, s, x, out, hf, hx, hl, ho => by
  have c := h.few;have b : ¬ (x : Int) = (n : Int) :=om;rw [Nat.pow_succ] at ho;have d := Yt (n := n) (E := E) m (s ++ [(x : Int)]) (x + 1);simp only [zS, Z0m, Z2w, beqI, J7 b, Y17 (N := N) (s := s) om];rw [Y3, grd_true, Y3h h.len (by simp only [J1b, List.length_singleton]; omega) a, J0, Y0];simp only [walk];cases indep E (s ++ [(x : Int)]) with
  | true =>
   rw [J3, Y1q h a m f (s ++ [(x : Int)]) (x + 1) out om om (by simp; omega) om, J0, Y1q h a m f s (x + 1) _ om om om gr, J0, J1d];rfl
  | false =>
   rw [J1, Y1q h a m f s (x + 1) out om om om om, J0];rfl
theorem Y2r {d : Db} {l : List Con} (b : ValidDb d) : EOk d.2.length (edgesOf d l) := by
 refine ⟨b.few, Y6h b l, fun e a => ?_⟩;obtain ⟨i, hi, a⟩ := J13.1 a;obtain ⟨k, f, a⟩ := J13.1 a;unfold edgeP at a;have g := Jj.1 hi;have c := List.mem_range'.1 f;obtain ⟨q, h, j⟩ := c;split at a
 ·grind
 ·simp at a
def maxSets (n : Nat) (E : List (Int × Int)) : List (List Int) := if validE E then walk n E n [] 0 else []
theorem Y4h {N n : Nat} {E : List (Int × Int)} (h : EOk n E) (a : 1048576 < N) : Z0j N n E = some (maxSets n E) := by
 have b := h.few;unfold Z0j Z8y maxSets;rw [Y6m h a, J0];cases validE E with
 | false => rfl
 | true =>
  have := Y2q h a n N [] 0 om om sm sm;rw [show ((0 : Nat) : Int) = 0 from rfl] at this;rw [Ja, J1, this];rfl
theorem Y78 {N n : Nat} {E : List (Int × Int)} (h : EOk n E) (a : 1048576 < N) : Z11 N n E = some (maxSets n E) := by
 have b := h.few;have p := Y5t b;unfold Z11 Z16 maxSets;rw [Y6n h a, J0];cases validE E with
 | false => rfl
 | true =>
  have := Y1q h a n N [] 0 [] om om sm (by simp; omega);rw [show ((0 : Nat) : Int) = 0 from rfl] at this;rw [Ja, J1, this];rfl
def subsets (d : Db) (l : List Con) : List (List Int) := if validDb d then maxSets d.2.length (edgesOf d l) else []
theorem Y2i {d : Db} {l : List Con} (h : SmallDb d) (c : l.length <= 1048576) (a : 1048576 < N) : Z23 N d l = some (subsets d l) := by
 unfold Z23 subsets;rw [Yf h a, J0];cases b : validDb d with
 | false => rfl
 | true =>
  rw [Ja, J1, Y3k h c a, J0, b, Jc rfl, Y4h (Y2r (Y5 b)) a];rfl
theorem Y53 {d : Db} {l : List Con} (h : SmallDb d) (c : l.length <= 1048576) (a : 1048576 < N) : Z3g N d l = some (subsets d l) := by
 unfold Z3g subsets;rw [Y1u h a, J0];cases b : validDb d with
 | false => rfl
 | true =>
  rw [Ja, J1, Y6l h c a, J0, b, Jc rfl, Y78 (Y2r (Y5 b)) a];rfl
theorem Ya (d : Db) (l : List Con) : (subsets d l).length <= 16384 /\ ∀ r ∈ subsets d l, r.length <= 14 := by
 unfold subsets;by_cases a : validDb d = true
 ·rw [Jc a];have b := (Y5 a).few;unfold maxSets;split
  ·refine ⟨Ji (Yt _ _ _) (Y5t b), fun r c => ?_⟩;have := Y2p d.2.length [] 0 sm r c;omega
  ·grind
 ·grind
theorem Y4i {S : Nat -> Nat -> Bool} {N : Nat} (a : Runs S N) : ∀ n, n <= N -> (B S n).flatten = List.range n
 | 0, _ => by simp [B, sts]
 | n + 1, hn => by
  by_cases h : isSt S n = true
  ·rw [Y7n a h, List.flatten_append, Y4i a n om, J1a]; simp
  ·have d : 0 < n := by
    apply J15;intro g;have : n = 0 :=om;subst this;apply h;rw [Yd]; intro k l; omega
   obtain ⟨A, t, e, i, j, c⟩ := Y1n a (n + 1) om hn;have b : sts S n = A ++ [t] := by rw [Yn, Jn h, Jk] at e; exact e
   have f := Y4i a n om;rw [Y7o a h om b (c n om om), J1a, <- f];unfold B;rw [b];simp
theorem Y2j : ∀ L : List (List Nat), (L.map toI).flatten = toI L.flatten
 | [] => rfl
 | b :: L => by rw [List.map_cons, J1y, J1y, Y30, Y2j L]
theorem Y2k {d : Db} (a : validDb d = true) : (blocksOf d).flatten = toI (List.range d.2.length) := by
 unfold blocksOf;rw [Jc a, Y2j, Y4i (runs (Y5 a)) _ (J16 _)]
theorem Y4j (n : Nat) : (toI (List.range n)).Pairwise (· < ·) := by
 unfold toI;rw [J11];exact List.Pairwise.imp (fun h => om) Jz
def sizeP : List (List Int) -> Nat
 | [] => 1
 | b :: L => b.length * sizeP L
def nth : List (List Int) -> Nat -> List Int
 | [], _ => []
 | c :: C, k => c.getD (k % c.length) 0 :: nth C (k / c.length)
theorem Y21 : ∀ a b : List (List Int), sizeP (a ++ b) = sizeP a * sizeP b
 | [], b => by simp [sizeP]
 | x :: a, b => by simp only [List.cons_append, sizeP, Y21 a b, Nat.mul_assoc]
theorem Y1s : ∀ a : List (List Int), sizeP a.reverse = sizeP a
 | [] => rfl
 | x :: a => by
  rw [J20, Y21, Y1s a];simp [sizeP];exact Nat.mul_comm _ _
def Wts (w l : List Int) : Prop := ∀ x ∈ l, 1 <= at_ 0 w x /\ at_ 0 w x <= 9
structure Good1 (d : Db) (w : List Int) : Prop where
 vb : validDb d = true
 len : w.length = d.2.length
 few : d.2.length <= 14
 wts : ∀ x, 0 <= x -> x < (d.2.length : Int) -> 1 <= at_ 0 w x /\ at_ 0 w x <= 9
theorem Y8t {d : Db} {w : List Int} (h : validWeights d w = true) : Good1 d w := by
 unfold validWeights at h;simp at h;obtain ⟨a, c, e⟩ := h;refine ⟨a, c, (Y5 a).few, fun x b f => ?_⟩;rw [Y18 b om];exact of_decide_eq_true (Jg.1 e _ (J4 _))
structure Blks (n : Nat) (w : List Int) (L : List (List Int)) : Prop where
 ne : ∀ b ∈ L, b ≠ []
 sum : (L.map List.length).sum <= 14
 len : L.length <= 14
 each : ∀ b ∈ L, b.length <= 14
 ins : ∀ b ∈ L, ∀ x ∈ b, 0 <= x /\ x < (n : Int)
 wts : ∀ b ∈ L, Wts w b
 flat : L.flatten.Pairwise (· < ·)
theorem Good1.blks {d : Db} {w : List Int} (h : Good1 d w) : Blks d.2.length w (blocksOf d) := by
 obtain ⟨g, i, j, k⟩ := Y2h h.vb;have f := h.few;have c := Y33 h.vb;refine ⟨fun b a => (Y1w h.vb b a).1, ?_, om, fun b a => (Y1w h.vb b a).2, c, fun b a x e => ?_, ?_⟩
 ·show (sizes d).sum <= 14;omega
 ·have := c b a x e;exact h.wts x this.1 this.2
 ·rw [Y2k h.vb]; exact Y4j _
theorem Y5g : ∀ {C : List (List Int)} {k : Nat}, (∀ c ∈ C, c ≠ []) -> ∀ y ∈ nth C k, ∃ c ∈ C, y ∈ c
 | [], k, _, y, a => by simp [nth] at a
 | c :: C, k, h0, y, a => by
  have f : 0 < c.length := J1t.2 (h0 c sm);have h : k % c.length < c.length := Nat.mod_lt _ f;simp only [nth, Jf] at a;rcases a with rfl | a
  ·simp_all
  ·obtain ⟨b, d, e⟩ := Y5g (C := C) (fun x g => h0 x (by simp [g])) y a;exact ⟨b, by simp [d], e⟩
theorem Y35 : ∀ {C : List (List Int)} {k : Nat}, (∀ c ∈ C, c ≠ []) -> C.Pairwise (fun b c => ∀ x ∈ b, ∀ y ∈ c, x > y) -> (nth C k).Pairwise (· > ·)
 | [], k, _, _ => by simp [nth]
 | c :: C, k, h0, hp => by
  have h : 0 < c.length := J1t.2 (h0 c sm);have d : k % c.length < c.length := Nat.mod_lt _ h;have a : ∀ x ∈ C, x ≠ [] := fun x i => h0 x (by simp [i]);rw [Ju] at hp;simp only [nth, Ju];refine ⟨fun y j => ?_, Y35 a hp.2⟩;obtain ⟨e, f, g⟩ := Y5g a y j;rw [Y2 d];exact hp.1 e f _ (J4 d) y g
theorem Blks.rev {n : Nat} {w : List Int} {L : List (List Int)} (h : Blks n w L) : (∀ c ∈ L.reverse, c ≠ []) /\ L.reverse.Pairwise (fun b c => ∀ x ∈ b, ∀ y ∈ c, x > y) := by
 refine ⟨fun c d => h.ne c (List.mem_reverse.1 d), ?_⟩;rw [List.pairwise_reverse];refine ((List.pairwise_flatten.1 h.flat).2).imp fun a x e y f => ?_;exact a y f x e
def repN (L : List (List Int)) (k : Nat) : List Int := (nth L.reverse k).reverse
theorem Yx {n : Nat} {l : List Int} (e : l.Pairwise (· < ·)) (a : ∀ x ∈ l, 0 <= x /\ x < (n : Int)) : validSet n l = true := by
 unfold validSet;rw [J6];intro j b;have f := a _ (J4 b);rw [J8, J6, Y2 b];refine ⟨om, ?_⟩;by_cases d : j = 0
 ·simp [d]
 ·have c : j - 1 < l.length :=om;rw [Y2 c, J2 (Jl.1 e (j - 1) j c b om), Bool.or_true]
theorem Y5u (S : Nat -> Nat -> Bool) (n : Nat) : (sts S n).Pairwise (· < ·) := J1e _ (Jz)
theorem Y89 {S : Nat -> Nat -> Bool} {n : Nat} (a : Runs S n) : (B S n).Pairwise (fun b c => ∀ x ∈ b, ∀ y ∈ c, S y x = false) := by
 unfold B;rw [J11];refine (Y5u S n).imp_of_mem fun {s t} l i d x j y k => ?_;have f : S s x = true := (Jh.1 j).2;have g : S t y = true := (Jh.1 k).2;rw [J1c];intro h;have e := a.trans _ _ _ (a.trans _ _ _ g h) (a.symm _ _ f);rw [Yd.1 (Y1i.1 i).2 s d] at e;simp at e
def subDb (d : Db) (l : List Int) : Db := (d.1, l.map fun x => factAt d x.toNat)
theorem Y5h {d : Db} {l : List Int} (h : SmallDb d) (f : validDb d = true) (p : l.Pairwise (· < ·)) (a : ∀ x ∈ l, 0 <= x /\ x < (d.2.length : Int)) (r : l.length <= 14) (m : 1048576 < N) : Z2z N d l = some (subDb d l, true) := by
 have t := h.rels;unfold Z2z Z9o;rw [Yf h m, J0, f, Ja, J1, Y7z h om m, J0, Yx p a, Ja, J1, Y3, grd_true];have := loop (fun k (s : Nat) => Z58 N k l d.1 d.2 [] [] d.1 ((l.take s).map fun x => factAt d x.toNat) (s : Int)) (fun s => s <= l.length) (fun s => l.length - s) (fun o => o = some (subDb d l, true)) (fun k j n => by
  simp only [Z58, Z8d];by_cases b : j < l.length
  ·right;refine ⟨j + 1, b, om, ?_⟩;have c : (j : Int) < (l.length : Int) :=om;have g := a _ (J4 b);have i : (l[j]).toNat < d.2.length :=om;have e : at_ (0, []) d.2 l[j] = factAt d (l[j]).toNat := by
    have := Yc i
    rwa [show (((l[j]).toNat : Nat) : Int) = l[j] by omega] at this
   have q := Y13 h i;simp only [zS, c, Y1 b, Y4 b, Y8 g.1 g.2, e];rw [Y3, grd_true, Y3, grd_true, Y0, J5 b, Jx];rfl
  ·left;have c : ¬ (j : Int) < (l.length : Int) :=om;simp only [zS, c];rw [Jp om];rfl) N 0 om om
 exact this
theorem Ys {d : Db} {l : List Int} {j : Nat} (a : j < l.length) : factAt (subDb d l) j = factAt d (l[j]).toNat := by
 show ((l.map fun x => factAt d x.toNat).getD j (0, [])) = _;rw [Y2 (by simp; exact a), List.getElem_map]
theorem Y3l {d : Db} {l : List Int} (f : validDb d = true) (i : l.Pairwise (· < ·)) (b : ∀ x ∈ l, 0 <= x /\ x < (d.2.length : Int)) (p : l.length <= 14) : validDb (subDb d l) = true := by
 have e := Y5 f;have g : (subDb d l).2.length = l.length := by simp [subDb]
 unfold validDb;rw [J8, J8, J6, J6];refine ⟨e.rels, om, fun j o => ?_⟩;have a : j < l.length :=om;have k := b _ (J4 a);rw [Ys a, J8];refine ⟨e.fact _ om, ?_⟩;by_cases h : j = 0
 ·simp [h]
 ·have c : j - 1 < l.length :=om;have m := Jl.1 i (j - 1) j c a om;have n := b _ (J4 c);rw [Ys c, J2 (e.lt _ _ om om), Bool.or_true]
theorem Yg {n : Nat} {l : List Int} (h : validSet n l = true) : l.Pairwise (· < ·) := by
 have b : ∀ j (a : j < l.length), 0 < j -> l[j - 1]' om < l[j] := by
  intro j a k;have := of_decide_eq_true h j a;rw [J8, J21, J6, J6, J6, Y2 a, Y2 (show j - 1 < l.length by omega)] at this;rcases this.2 with c | c
  ·omega
  ·exact c
 rw [Jl];intro i j hi a f
 induction j with
 | zero => omega
 | succ j g =>
  have d := b (j + 1) a om;simp only [J1v] at d;by_cases e : i = j
  ·subst e; exact d
  ·have := g om om;omega
theorem Y15 {n : Nat} {E : List (Int × Int)} : ∀ (m : Nat) (s : List Int) (x : Nat), ∀ r ∈ walk n E m s x, validSet n r = true
 | 0, s, x, r, a => by
  simp only [walk] at a;split at a
  ·rename_i b;simp only [J14] at a;subst a;simp only [maxI, J8] at b;exact b.2.1
  ·simp at a
 | m + 1, s, x, r, a => by
  simp only [walk, Jv] at a;rcases a with a | a
  ·split at a
   ·exact Y15 m _ _ r a
   ·simp at a
  ·exact Y15 m _ _ r a
theorem Y3i (d : Db) (l : List Con) : ∀ r ∈ subsets d l, r.Pairwise (· < ·) := by
 intro r a;unfold subsets at a;by_cases b : validDb d = true
 ·rw [Jc b] at a;unfold maxSets at a;split at a
  ·exact Yg (Y15 _ _ _ r a)
  ·simp at a
 ·rw [Jn b] at a; simp at a
theorem Y16 {E : List (Int × Int)} {s a : List Int} (h : ∀ y ∈ s, y ∈ a) (hi : indep E a = true) : indep E s = true := by
 unfold indep at hi ⊢;rw [Jg] at hi ⊢;intro e c;have := hi e c;simp at this ⊢;rcases this with b | b
 ·grind
 ·grind
theorem grow {n : Nat} {E : List (Int × Int)} {s : List Int} (b : ∀ y ∈ s, 0 <= y /\ y < (n : Int)) (hi : indep E s = true) : ∀ k, k <= n -> ∃ G : List Int, (∀ y ∈ s, y ∈ G) /\ (∀ y ∈ G, 0 <= y /\ y < (n : Int)) /\ indep E G = true /\ ∀ x : Nat, x < k -> (x : Int) ∈ G \/ indep E (G ++ [(x : Int)]) = false
 | 0, _ => ⟨s, fun y h => h, b, hi, fun x j => om⟩
 | k + 1, hk => by
  obtain ⟨G, c, l, m, d⟩ := grow b hi k om;cases i : indep E (G ++ [(k : Int)]) with
  | false => grind
  | true =>
   refine ⟨G ++ [(k : Int)], fun y a => List.mem_append_left _ (c y a), ?_, i, ?_⟩
   ·grind
   ·intro x j;by_cases e : x = k
    ·grind
    ·rcases d x om with h | h
     ·grind
     ·right;cases f : indep E (G ++ [(k : Int)] ++ [(x : Int)]) with
      | false => rfl
      | true =>
       have := Y16 (s := G ++ [(x : Int)]) (fun y a => by
        rcases Jv.1 a with g | g
        ·simp_all
        ·simp_all) f
       rw [h] at this;cases this
theorem Y6o {n : Nat} {E : List (Int × Int)} {s : List Int} (l : validE E = true) (k : ∀ y ∈ s, 0 <= y /\ y < (n : Int)) (hi : indep E s = true) : ∃ r, maxI n E r = true /\ ∀ y ∈ s, y ∈ r := by
 obtain ⟨G, f, e, g, i⟩ := grow k hi n (J16 n);have c : ∀ y, y ∈ ((List.range n).map (fun x : Nat => (x : Int))).filter (fun y => decide (y ∈ G)) ↔ y ∈ G := by
  intro y;rw [Jh, J6, Je];constructor
  ·grind
  ·intro h;have := e y h;exact ⟨⟨y.toNat, by rw [Jj]; omega, om⟩, h⟩
 have a : (((List.range n).map (fun x : Nat => (x : Int))).filter (fun y => decide (y ∈ G))).Pairwise (· < ·) := by
  apply J1e;rw [J11];exact Jz.imp fun h => om
 refine ⟨_, ?_, fun y b => (c y).2 (f y b)⟩;unfold maxI;simp only [J8, J6];refine ⟨l, Yx a (fun x d => e x ((c x).1 d)), Y16 (fun y b => (c y).1 b) g, fun x d => ?_⟩;unfold fitsE;rcases i x d with h | h
 ·grind
 ·have : indep E (((List.range n).map (fun x : Nat => (x : Int))).filter (fun y => decide (y ∈ G)) ++ [(x : Int)]) = false := by
   cases j : indep E (((List.range n).map (fun x : Nat => (x : Int))).filter (fun y => decide (y ∈ G)) ++ [(x : Int)]) with
   | false => rfl
   | true =>
    have := Y16 (s := G ++ [(x : Int)]) (fun y b => gr) j;rw [h] at this;cases this
  rw [this, Jq, Jw]
theorem Yi {n : Nat} {E : List (Int × Int)} {r : List Int} (h : maxI n E r = true) : validE E = true /\ validSet n r = true /\ indep E r = true := by
 unfold maxI at h;simp at h;exact ⟨h.1, h.2.1, h.2.2.1⟩
theorem Y2s {n : Nat} {E : List (Int × Int)} {r : List Int} (b : maxI n E r = true) : ∀ (m : Nat) (s t : List Int) (x : Nat), x + m = n -> r = s ++ t -> (∀ y ∈ t, (x : Int) <= y) -> r ∈ walk n E m s x
 | 0, s, t, x, hx, he, ht => by
  have : t = [] := by
   cases t with
   | nil => rfl
   | cons y t =>
    have i := ht y sm;obtain ⟨j, l, e⟩ := J19 (show y ∈ r by rw [he]; simp);have := Yw (Yi b).2.1 l;omega
  subst this;rw [Jk] at he;subst he;simp [walk, b]
 | m + 1, s, t, x, hx, he, ht => by
  have f := Yg (Yi b).2.1;have c : t.Pairwise (· < ·) :=gr;simp only [walk, Jv];by_cases a : (x : Int) ∈ t
  ·cases t with
   | nil => simp at a
   | cons y t =>
    have g : y = (x : Int) := by
     rcases Jf.1 a with h | h
     ·exact h.symm
     ·have i := (Ju.1 c).1 _ h;have k := ht y sm;omega
    subst g;left;rw [Jc (Y16 (fun y d => by rw [he]; rcases Jv.1 d with h | h; exact List.mem_append_left _ h; exact List.mem_append_right _ gr) (Yi b).2.2)];refine Y2s b m (s ++ [(x : Int)]) t (x + 1) om (by simp [he]) fun z o => ?_;have := (Ju.1 c).1 _ o;omega
  ·right;refine Y2s b m s t (x + 1) om he fun y d => ?_;have i := ht y d;have k : y ≠ (x : Int) := fun e => a (e ▸ d);omega
theorem Y2t {n : Nat} {E : List (Int × Int)} : ∀ (m : Nat) (s : List Int) (x : Nat), ∀ r ∈ walk n E m s x, maxI n E r = true
 | 0, s, x, r, a => by
  simp only [walk] at a;split at a
  ·grind
  ·simp at a
 | m + 1, s, x, r, a => by
  simp only [walk, Jv] at a;rcases a with a | a
  ·split at a
   ·exact Y2t m _ _ r a
   ·simp at a
  ·exact Y2t m _ _ r a
theorem Yy {d : Db} {l : List Con} {r : List Int} : r ∈ subsets d l ↔ validDb d = true /\ maxI d.2.length (edgesOf d l) r = true := by
 unfold subsets maxSets;constructor
 ·intro h;split at h
  ·rename_i b;split at h
   ·exact ⟨b, Y2t _ _ _ r h⟩
   ·simp at h
  ·simp at h
 ·intro ⟨b, a⟩;have c := (Yi a).2.1;rw [Jc b, Jc (Yi a).1];refine Y2s a _ [] r 0 om sm fun y f => ?_;obtain ⟨j, e, rfl⟩ := J19 f;have := Yw c e;omega
def picks : List (List Int) -> List Int -> Prop
 | [], [] => True
 | b :: L, x :: r => x ∈ b /\ picks L r
 | _, _ => False
theorem Y3m : ∀ {L : List (List Int)} {r : List Int}, picks L r -> r.length = L.length
 | [], [], _ => rfl
 | [], _ :: _, h => h.elim
 | _ :: _, [], h => h.elim
 | b :: L, x :: r, h => by simp [Y3m h.2]
theorem Y22 : ∀ {A : List (List Int)} {a : List Int} {B : List (List Int)} {b : List Int}, picks A a -> picks B b -> picks (A ++ B) (a ++ b)
 | [], [], _, _, _, h => h
 | [], _ :: _, _, _, h, _ => h.elim
 | _ :: _, [], _, _, h, _ => h.elim
 | c :: A, x :: a, _, _, h, h2 => ⟨h.1, Y22 h.2 h2⟩
theorem Y11 : ∀ {A : List (List Int)} {a : List Int}, picks A a -> picks A.reverse a.reverse
 | [], [], _ => trivial
 | [], _ :: _, h => h.elim
 | _ :: _, [], h => h.elim
 | c :: A, x :: a, h => by
  rw [J20, J20];exact Y22 (Y11 h.2) ⟨h.1, trivial⟩
theorem Y3n : ∀ {C : List (List Int)} (k : Nat), (∀ c ∈ C, c ≠ []) -> picks C (nth C k)
 | [], _, _ => trivial
 | c :: C, k, h => by
  have a : 0 < c.length := J1t.2 (h c sm);refine ⟨?_, Y3n _ fun x b => h x (by simp [b])⟩;rw [Y2 (Nat.mod_lt k a)];exact J4 _
theorem Y3o : ∀ {C : List (List Int)} {r : List Int}, picks C r -> ∃ k, k < sizeP C /\ nth C k = r
 | [], [], _ => ⟨0, by decide, rfl⟩
 | [], _ :: _, h => h.elim
 | _ :: _, [], h => h.elim
 | c :: C, x :: r, h => by
  obtain ⟨k, b, d⟩ := Y3o h.2;obtain ⟨j, a, e⟩ := J19 h.1;refine ⟨j + c.length * k, ?_, ?_⟩
  ·show j + c.length * k < c.length * sizeP C;have : c.length * (k + 1) <= c.length * sizeP C := Nat.mul_le_mul_left _ b;rw [Nat.mul_add] at this;omega
  ·show c.getD ((j + c.length * k) % c.length) 0 :: nth C ((j + c.length * k) / c.length) = x :: r;rw [Nat.add_mul_mod_self_left, Nat.mod_eq_of_lt a, Nat.add_mul_div_left _ _ om, Nat.div_eq_of_lt a, Nat.zero_add, d, Y2 a, e]
theorem Y23 : ∀ {L : List (List Int)} {r : List Int}, picks L r -> (∀ x ∈ r, ∃ b ∈ L, x ∈ b) /\ ∀ b ∈ L, ∃ x ∈ r, x ∈ b
 | [], [], _ => sm
 | [], _ :: _, h => h.elim
 | _ :: _, [], h => h.elim
 | c :: L, z :: r, h => by
  obtain ⟨g, i⟩ := Y23 h.2;constructor
  ·intro x d;rcases Jf.1 d with e | d
   ·exact ⟨c, sm, e ▸ h.1⟩
   ·obtain ⟨b, k1, f⟩ := g x d;exact ⟨b, by simp [k1], f⟩
  ·intro b a;rcases Jf.1 a with e | a
   ·exact ⟨z, sm, e ▸ h.1⟩
   ·obtain ⟨x, k1, f⟩ := i b a;exact ⟨x, by simp [k1], f⟩
def Ordd (L : List (List Int)) : Prop := L.Pairwise fun b c => ∀ x ∈ b, ∀ y ∈ c, x < y
theorem Y3p : ∀ {L : List (List Int)} {r : List Int}, Ordd L -> picks L r -> ∀ b ∈ L, ∀ x ∈ r, ∀ y ∈ r, x ∈ b -> y ∈ b -> x = y
 | [], [], _, _ => sm
 | [], _ :: _, _, h => h.elim
 | _ :: _, [], _, h => h.elim
 | c :: L, z :: r, ho, h => by
  obtain ⟨n, t⟩ := Ju.1 ho;have p := (Y23 h.2).1;have i : ∀ x ∈ r, x ∉ c := fun x a o => by
   obtain ⟨b, k1, s⟩ := p x a;have := n b k1 x o x s;omega
  intro b j x a y g d f;rcases Jf.1 j with e | j
  ·subst e;rcases Jf.1 a with k | a
   ·rcases Jf.1 g with l | g
    ·rw [k, l]
    ·exact absurd f (i y g)
   ·exact absurd d (i x a)
  ·have m : z ∉ b := fun q => by
    have := n b j z h.1 z q;omega
   rcases Jf.1 a with k | a
   ·exact absurd (k ▸ d) m
   ·rcases Jf.1 g with l | g
    ·exact absurd (l ▸ f) m
    ·exact Y3p t h.2 b j x a y g d f
theorem Y4k : ∀ {L : List (List Int)} {r : List Int}, Ordd L -> r.Pairwise (· < ·) -> (∀ x ∈ r, ∃ b ∈ L, x ∈ b) -> (∀ b ∈ L, ∃ x ∈ r, x ∈ b) -> (∀ b ∈ L, ∀ x ∈ r, ∀ y ∈ r, x ∈ b -> y ∈ b -> x = y) -> picks L r
 | [], [], _, _, _, _, _ => trivial
 | [], x :: r, _, _, h, _, _ => by
  obtain ⟨b, k, _⟩ := h x sm;simp at k
 | c :: L, [], _, _, _, h, _ => by
  obtain ⟨x, k, _⟩ := h c sm;simp at k
 | c :: L, z :: r, ho, hs, h1, h2, h3 => by
  obtain ⟨j, o⟩ := Ju.1 ho;obtain ⟨l, p⟩ := Ju.1 hs;have g : z ∈ c := by
   obtain ⟨b, k1, a⟩ := h1 z sm;rcases Jf.1 k1 with e | k1
   ·exact e ▸ a
   ·obtain ⟨y, i, q⟩ := h2 c sm;have m := j b k1 y q z a;rcases Jf.1 i with e | i
    ·omega
    ·have := l y i;omega
  refine ⟨g, Y4k o p (fun x d => ?_) (fun b f => ?_) fun b f x d y n => h3 b (by simp [f]) x (by simp [d]) y (by simp [n])⟩
  ·obtain ⟨b, k1, a⟩ := h1 x (by simp [d]);rcases Jf.1 k1 with e | k1
   ·have m := h3 c sm z sm x (by simp [d]) g (e ▸ a);have := l x d;omega
   ·exact ⟨b, k1, a⟩
  ·obtain ⟨x, k1, a⟩ := h2 b (by simp [f]);rcases Jf.1 k1 with e | k1
   ·have := j b f z g x a;omega
   ·exact ⟨x, k1, a⟩
structure Parts (n : Nat) (S : Nat -> Nat -> Bool) (L : List (List Int)) : Prop where
 ne : ∀ b ∈ L, b ≠ []
 ins : ∀ b ∈ L, ∀ x ∈ b, 0 <= x /\ x < (n : Int)
 ord : Ordd L
 cover : ∀ x : Int, 0 <= x -> x < (n : Int) -> ∃ b ∈ L, x ∈ b
 same : ∀ b ∈ L, ∀ x ∈ b, ∀ y ∈ b, S x.toNat y.toNat = true
 apart : L.Pairwise fun b c => ∀ x ∈ b, ∀ y ∈ c, S y.toNat x.toNat = false
 symm : ∀ i k, S i k = true -> S k i = true
theorem Y6p {k : Type} {R} : ∀ {L : List k}, L.Pairwise R -> ∀ b ∈ L, ∀ c ∈ L, b = c \/ R b c \/ R c b
 | [], _ => sm
 | a :: L, h => by
  obtain ⟨i, j⟩ := Ju.1 h;intro b d c e;rcases Jf.1 d with f | d <;> rcases Jf.1 e with g | e
  ·left; rw [f, g]
  ·right; left; rw [f]; exact i c e
  ·right; right; rw [g]; exact i b d
  ·exact Y6p j b d c e
theorem Parts.eq {n : Nat} {S : Nat -> Nat -> Bool} {L : List (List Int)} (h : Parts n S L) {b c : List Int} (g : b ∈ L) (i : c ∈ L) {x y : Int} (d : x ∈ b) (f : y ∈ c) (a : S x.toNat y.toNat = true) : b = c := by
 rcases Y6p h.apart b g c i with e | k | k
 ·exact e
 ·have := k x d y f;rw [h.symm _ _ a] at this;cases this
 ·have := k y f x d;rw [a] at this;cases this
def EdgeS (n : Nat) (S : Nat -> Nat -> Bool) (E : List (Int × Int)) : Prop := ∀ i k : Int, (i, k) ∈ E ↔ (0 <= i /\ i < k /\ k < (n : Int) /\ S i.toNat k.toNat = true)
theorem Yh {E : List (Int × Int)} {s : List Int} : indep E s = true ↔ ∀ i k, (i, k) ∈ E -> i ∈ s -> k ∈ s -> False := by
 unfold indep;rw [Jg];constructor
 ·intro h i k c a b;have := h (i, k) c;simp [a, b] at this
 ·intro h e c;simp only [J1o, Bool.and_eq_false_iff, J1l];by_cases a : e.1 ∈ s
  ·exact .inr fun b => h e.1 e.2 c a b
  ·exact .inl a
theorem Y4l {n : Nat} {S : Nat -> Nat -> Bool} {L : List (List Int)} {E : List (Int × Int)} (d : Parts n S L) (f : EdgeS n S E) {r : List Int} (hi : indep E r = true) : ∀ b ∈ L, ∀ x ∈ r, ∀ y ∈ r, x ∈ b -> y ∈ b -> x = y := by
 intro b e x g y i a c;have j := d.ins b e x a;have k := d.ins b e y c;rcases Int.lt_trichotomy x y with h | h | h
 ·exact (Yh.1 hi x y ((f x y).2 ⟨j.1, h, k.2, d.same b e x a y c⟩) g i).elim
 ·exact h
 ·exact (Yh.1 hi y x ((f y x).2 ⟨k.1, h, j.2, d.same b e y c x a⟩) i g).elim
theorem Y5v {n : Nat} {S : Nat -> Nat -> Bool} {L : List (List Int)} {E : List (Int × Int)} (a : Parts n S L) (u : EdgeS n S E) (H : validE E = true) {r : List Int} : maxI n E r = true ↔ (r.Pairwise (· < ·) /\ picks L r) := by
 constructor
 ·intro h;obtain ⟨_, B, hi⟩ := Yi h;have G := Yg B;have z : ∀ x ∈ r, 0 <= x /\ x < (n : Int) := fun x g => by
   obtain ⟨j, U, rfl⟩ := J19 g;exact Yw B U
  have w : ∀ x : Nat, x < n -> fitsE E r (x : Int) = false := fun x g => by
   unfold maxI at h;simp only [J8, J6] at h;simpa using h.2.2.2 x g
  refine ⟨G, Y4k a.ord G (fun x g => a.cover x (z x g).1 (z x g).2) (fun b D => ?_) (Y4l a u hi)⟩;by_cases F : ∃ x ∈ r, x ∈ b
  ·exact F
  exfalso;obtain ⟨x, m⟩ := List.exists_mem_of_ne_nil b (a.ne b D);have g := a.ins b D x m;have o : x ∉ r := fun h => F ⟨x, h, m⟩;have v := w x.toNat om;rw [show ((x.toNat : Nat) : Int) = x by omega] at v;unfold fitsE at v;rw [J7 o, Jw, Jb] at v;have : indep E (r ++ [x]) = true := by
   rw [Yh];intro i k l d f;obtain ⟨M, T, O, C⟩ := (u i k).1 l;rw [Jv, J14] at d f;rcases d with d | d <;> rcases f with f | f
   ·exact Yh.1 hi i k l d f
   ·subst f;obtain ⟨c, t, p⟩ := a.cover i M om;have := a.eq t D p m C;exact F ⟨i, d, this ▸ p⟩
   ·subst d;obtain ⟨c, t, p⟩ := a.cover k om O;have := a.eq D t m p C;exact F ⟨k, f, this ▸ p⟩
   ·omega
  rw [this] at v;cases v
 ·intro ⟨G, Q⟩;obtain ⟨I, W⟩ := Y23 Q;have A := Y3p a.ord Q;unfold maxI;simp only [J8, J6];refine ⟨H, Yx G (fun x g => ?_), ?_, fun x g => ?_⟩
  ·obtain ⟨b, k1, V⟩ := I x g;exact a.ins b k1 x V
  ·rw [Yh];intro i k l d f;obtain ⟨M, T, O, C⟩ := (u i k).1 l;obtain ⟨b, q, s⟩ := I i d;obtain ⟨c, t, p⟩ := I k f;have e := a.eq q t s p C;have := A b q i d k f s (e ▸ p);omega
  ·unfold fitsE;by_cases o : (x : Int) ∈ r
   ·simp [o]
   ·obtain ⟨b, q, s⟩ := a.cover (x : Int) om om;obtain ⟨y, J, K⟩ := W b q;have R := a.ins b q y K;have : indep E (r ++ [(x : Int)]) = false := by
     cases P : indep E (r ++ [(x : Int)]) with
     | false => rfl
     | true =>
      exfalso;rcases Int.lt_trichotomy (x : Int) y with h | h | h
      ·exact Yh.1 P x y ((u x y).2 ⟨om, h, R.2, a.same b q x s y K⟩) sm (by simp [J])
      ·exact o (h ▸ J)
      ·exact Yh.1 P y x ((u y x).2 ⟨R.1, h, om, a.same b q y K x s⟩) (by simp [J]) sm
    rw [this, Jq, Jw]
def uni : List Int -> List Int -> List Int -> Option (List Int)
 | [], _, x => some x
 | _ :: _, [], _ => none
 | t :: ts, w :: ws, x => if t < 0 then (if -1 - t = w then uni ts ws x else none)
  else if x.getD t.toNat 0 >= 0 then (if x.getD t.toNat 0 = w then uni ts ws x else none)
  else uni ts ws (x.set t.toNat w)
theorem Y2e : ∀ {a b x y : List Int}, uni a b x = some y -> y.length = x.length
 | [], _, x, y, h => by simp [uni] at h; rw [h]
 | _ :: _, [], _, _, h => by simp [uni] at h
 | t :: a, w :: b, x, y, h => by
  simp [uni] at h;split at h
  ·split at h
   ·exact Y2e h
   ·cases h
  ·split at h
   ·split at h
    ·exact Y2e h
    ·cases h
   ·have := Y2e h
    rwa [List.length_set] at this
theorem Y79 {x : List Int} {t : Nat} (h : t < x.length) {w : Int} (a : x.getD t 0 = w) : x.set t w = x := by
 rw [Y2 h] at a;rw [<- a];exact List.set_getElem_self h
theorem Y2f {N n : Nat} {a2 f2 : Int} {a c : List Int} (i : a.length <= 3) (p : a.length = c.length) (r : n <= 4) (l : termsOk n a = true) (o : 1048576 < N) : ∀ (f q : Nat) (x : List Int), a.length - q < f -> q <= a.length -> x.length = n -> ∃ y, Z7f N f a2 a f2 c x (q : Int) = some (y, (uni (a.drop q) (c.drop q) x).isSome) /\ ∀ z, uni (a.drop q) (c.drop q) x = some z -> y = z
 | 0, q, x, hf, _, _ => om
 | f + 1, q, x, hf, hq', hx => by
  simp only [Z7f, Z0a3];by_cases g : q < a.length
  ·have s : (q : Int) < (a.length : Int) :=om;have h : q < c.length :=om;have v := of_decide_eq_true (Jg.1 l _ (J4 g));rw [J9 g, J9 h];simp only [zS, s, Y1 g, Y4 g, Y1 h, Y4 h, Y0 (j := q), uni, bneI];by_cases k : a[q] < 0
   ·rw [J2 k, J3, Jc k, Y6];by_cases d : -1 - a[q] = c[q]
    ·rw [J2 d, Ja, J1, Jc d];exact Y2f i p r l o f (q + 1) x om g hx
    ·simp_all
   ·obtain ⟨t, e⟩ : ∃ t : Nat, a[q] = (t : Int) := ⟨a[q].toNat, om⟩;have b : t < x.length :=om;rw [J7 k, J1, Jn k, e, Y1 b, grd_true, grd_true, Jm, Y4 b, Y2 b];by_cases d : x[t] >= 0
    ·rw [J2 d, J3, Jc d];by_cases m : x[t] = c[q]
     ·rw [J2 m, Ja, J1, Jc m, grd_true, grd_true, letv_eq, Y79 b (by rw [Y2 b]; exact m)];exact Y2f i p r l o f (q + 1) x om g hx
     ·simp_all
    ·rw [J7 d, J1, Jn d, grd_true, letv_eq];exact Y2f i p r l o f (q + 1) (x.set t c[q]) om g gr
  ·have : q = a.length :=om;subst this;simp only [zS, J10, J1f, uni];exact ⟨x, rfl, fun z u => by cases u; rfl⟩
theorem Y2g {N n : Nat} {a b : List Int} (g : a.length <= 3) (m : a.length = b.length) (o : n <= 4) (k : termsOk n a = true) (l : 1048576 < N) : ∀ (f q : Nat) (x : List Int), a.length - q < f -> q <= a.length -> x.length = n -> ∃ y, Z8w N f b x a (a.length : Int) (q : Int) = some (y, (uni (a.drop q) (b.drop q) x).isSome) /\ ∀ z, uni (a.drop q) (b.drop q) x = some z -> y = z
 | 0, q, x, hf, _, _ => om
 | f + 1, q, x, hf, hq', hx => by
  simp only [Z8w, Z0as];by_cases c : q < a.length
  ·have s : (q : Int) < (a.length : Int) :=om;have d : q < b.length :=om;have v := of_decide_eq_true (Jg.1 k _ (J4 c));rw [J9 c, J9 d];simp only [zS, s, Y1 c, Y4 c, Y1 d, Y4 d, Y0 (j := q), uni, bneI, Z64, Z4w];by_cases p : a[q] < 0
   ·rw [J7 (show ¬ a[q] >= 0 by omega), Jw, J3, Jc p, Y6];by_cases i : -1 - a[q] = b[q]
    ·rw [J2 i, Ja, J1, Jc i];exact Y2g g m o k l f (q + 1) x om c hx
    ·simp_all
   ·obtain ⟨t, e⟩ : ∃ t : Nat, a[q] = (t : Int) := ⟨a[q].toNat, om⟩;have h : t < x.length :=om;rw [J2 (show a[q] >= 0 by omega), Ja, J1, Jn p, e, Y1 h, grd_true, Jm, Y4 h, Y2 h];by_cases i : x[t] >= 0
    ·rw [J7 (show ¬ x[t] < 0 by omega), J1, Jc i, grd_true];by_cases r : x[t] = b[q]
     ·rw [J2 r, Ja, J1, Jc r];exact Y2g g m o k l f (q + 1) x om c hx
     ·simp_all
    ·rw [J2 (show x[t] < 0 by omega), J3, Jn i, grd_true, grd_true, letv_eq];exact Y2g g m o k l f (q + 1) (x.set t b[q]) om c gr
  ·have : q = a.length :=om;subst this;simp only [zS, J10, J1f, uni];exact ⟨x, rfl, fun z u => by cases u; rfl⟩
def meetA (a : Atm) (f : Fact) (x : List Int) : Option (List Int) := if f.1 = a.1 then uni a.2 f.2 x else none
def emb (d : Db) (as : List Atm) : Nat -> Nat -> List Int -> List Int -> List (List Int × List Int)
 | 0, _, x, fs => [(x, fs)]
 | m + 1, k, x, fs => (List.range d.2.length).flatMap fun i => match meetA (atomAt as k) (factAt d i) x with
  | some y => emb d as m (k + 1) y (fs ++ [(i : Int)])
  | none => []
theorem Y1l {d : Db} {as : List Atm} (c : d.2.length <= 14) : ∀ (m k : Nat) (x b : List Int), (emb d as m k x b).length <= 14 ^ m
 | 0, k, x, b => by simp [emb]
 | m + 1, k, x, b => by
  have := Yl (n := 14 ^ m) (a := List.range d.2.length) (piece := fun i => match meetA (atomAt as k) (factAt d i) x with
   | some y => emb d as m (k + 1) y (b ++ [(i : Int)])
   | none => []) fun i _ => by
    split
    ·exact Y1l c m _ _ _
    ·simp
  rw [Js] at this;rw [Nat.pow_succ, Nat.mul_comm];exact Ji this (J1s _ c)
structure QOk (d : Db) (n : Nat) (as : List Atm) : Prop where
 few : d.2.length <= 14
 n4 : n <= 4
 as3 : as.length <= 3
 terms : ∀ k, k < as.length -> termsOk n (atomAt as k).2 = true /\ (atomAt as k).2.length <= 3
 len : ∀ k i, k < as.length -> i < d.2.length -> (factAt d i).1 = (atomAt as k).1 -> (atomAt as k).2.length = (factAt d i).2.length
theorem qOk {d : Db} {q : Qry} (h : queryFor d q = true) : QOk d q.1.toNat q.2.1 := by
 unfold queryFor validQ at h;simp at h;obtain ⟨j, l, o, n, f, _, _⟩ := h;have g := Y5 j;have b : ∀ k, k < q.2.1.length -> atomOk d.1 q.1.toNat q.2.1 k = true := of_decide_eq_true f;refine ⟨g.few, om, om, fun k e => ?_, fun k i e hi m => ?_⟩
 ·have a := b k e;unfold atomOk at a;simp at a;have c := Y2m l a.1;exact ⟨a.2.2.2, om⟩
 ·have a := b k e;unfold atomOk at a;simp at a;have c := (Yj g.rels (g.fact i hi)).len;rw [m] at c;have : ((atomAt q.2.1 k).2.length : Int) = ((factAt d i).2.length : Int) := a.2.1.trans c.symm;omega
theorem Y7a {N n : Nat} {d : Db} {as : List Atm} (h : QOk d n as) (f : 1048576 < N) {k i : Nat} (a : k < as.length) (hi : i < d.2.length) {x : List Int} (j : x.length = n) : ∃ y, Z6u N (atomAt as k) (factAt d i) x = some (y, (meetA (atomAt as k) (factAt d i) x).isSome) /\ ∀ z, meetA (atomAt as k) (factAt d i) x = some z -> y = z := by
 have g := h.n4;obtain ⟨l, m⟩ := h.terms k a;unfold Z6u Z0b4 meetA;rw [Y3, grd_true, bneI];by_cases e : (factAt d i).1 = (atomAt as k).1
 ·have b := h.len k i a hi e;have c : (((factAt d i).2.length : Int) != ((atomAt as k).2.length : Int)) = false := by simp [b]
  rw [J2 e, Ja, J1, c, J1, Jc e];have := Y2f (N := N) (n := n) (a2 := (atomAt as k).1) (f2 := (factAt d i).1) m b g l f N 0 x om om j;simpa using this
 ·simp_all
theorem p14 {m : Nat} (h : m <= 3) : 14 ^ m <= 2744 := Ji (Nat.pow_le_pow_right (by decide) h) (by decide)
theorem Y4m {a : Atm} {f : Fact} {x y : List Int} (h : meetA a f x = some y) : y.length = x.length := by
 unfold meetA at h;split at h
 ·exact Y2e h
 ·cases h
theorem Y7b {d : Db} {as : List Atm} (c : d.2.length <= 14) (m k : Nat) (x b : List Int) (j : Nat) (e : j <= d.2.length) : ((List.range j).flatMap fun i => match meetA (atomAt as k) (factAt d i) x with
  | some y => emb d as m (k + 1) y (b ++ [(i : Int)])
  | none => []).length <= 14 * 14 ^ m := by
 have := Yl (n := 14 ^ m) (a := List.range j) (piece := fun i => match meetA (atomAt as k) (factAt d i) x with
  | some y => emb d as m (k + 1) y (b ++ [(i : Int)])
  | none => []) fun i _ => by
   split
   ·exact Y1l c m _ _ _
   ·simp
 rw [Js] at this;exact Ji this (J1s _ om)
theorem Y5i {N n : Nat} {d : Db} {q : Qry} (h : QOk d n q.2.1) (l : 1048576 < N) : ∀ (m f k : Nat) (x a : List Int), m < f -> k + m = q.2.1.length -> x.length = n -> a.length = k -> Z3u N f d q k x a = some (emb d q.2.1 m k x a)
 | _, 0, _, _, _, hf, _, _, _ => om
 | 0, f + 1, k, x, a, hf, hk, hx, hfs => by
  have A := h.as3;have C := h.n4;obtain rfl : k = q.2.1.length :=om;simp [Z3u, Z9s, J3, emb];rw [Y3, Y3 om gr];rfl
 | m + 1, f + 1, k, x, a, hf, hk, hx, hfs => by
  have A := h.as3;have C := h.n4;have p := h.few;have g : ¬ (k : Int) = (q.2.1.length : Int) :=om;have b : k < q.2.1.length :=om;have F := p14 (m := m) om;simp only [Z3u, Z9s, beqI, J7 g, J1];have := loop (fun t (j : Nat) => Z7g N (Z3u N f) t (k : Int) x a d.1 d.2 q.1 q.2.1 q.2.2 ((List.range j).flatMap fun i => match meetA (atomAt q.2.1 k) (factAt d i) x with
    | some y => emb d q.2.1 m (k + 1) y (a ++ [(i : Int)])
    | none => []) (j : Int)) (fun j => j <= d.2.length) (fun j => d.2.length - j) (fun o => o = some (emb d q.2.1 (m + 1) k x a)) (fun t j B => by
   simp only [Z7g, Z0a4];by_cases c : j < d.2.length
   ·right;refine ⟨j + 1, c, om, ?_⟩;have u : (j : Int) < (d.2.length : Int) :=om;have E := Y7b (as := q.2.1) p m k x a j om;obtain ⟨y, r, s⟩ := Y7a h l b c hx;have v : at_ (0, []) q.2.1 (k : Int) = atomAt q.2.1 k := by rw [Y4 b]; exact (Y2 b).symm
    have w : at_ (0, []) d.2 (j : Int) = factAt d j := Yc c;simp only [zS, u, Y1 b, Y1 c, v, w, r, Y0 (j := j), Y0 (j := k)];rw [J1a, List.flatMap_append];cases e : meetA (atomAt q.2.1 k) (factAt d j) x with
    | none => grind
    | some z =>
     obtain rfl := s z e;have D := Y1l (as := q.2.1) p m (k + 1) y (a ++ [(j : Int)]);simp only [Option.isSome_some, J3, J1n, List.flatMap_nil, e, Jk];rw [Y3, grd_true, Y3, grd_true, Y5i h l m f (k + 1) y (a ++ [(j : Int)]) om om ((Y4m e).trans hx) (by simp; omega), J0, Y3, grd_true]
   ·left;have : j = d.2.length :=om;subst this;simp [J1];rfl) N 0 om om
  exact this
theorem Y7c {N n : Nat} {d : Db} {as : List Atm} (h : QOk d n as) (b : 1048576 < N) {k i : Nat} (a : k < as.length) (hi : i < d.2.length) (e : (factAt d i).1 = (atomAt as k).1) {x : List Int} (g : x.length = n) : ∃ y, Z8m N x (atomAt as k).2 (factAt d i).2 = some (y, (meetA (atomAt as k) (factAt d i) x).isSome) /\ ∀ z, meetA (atomAt as k) (factAt d i) x = some z -> y = z := by
 have f := h.n4;obtain ⟨j, l⟩ := h.terms k a;have c := h.len k i a hi e;unfold Z8m Z0bz meetA;rw [Y17 om, J0, Jc e];have := Y2g (N := N) (n := n) l c f j b N 0 x om om g;simpa using this
theorem Y5j {N n : Nat} {d : Db} {q : Qry} (h : QOk d n q.2.1) (w : 1048576 < N) : ∀ (m f k : Nat) (x b : List Int) (out : List (List Int × List Int)), m < f -> k + m = q.2.1.length -> x.length = n -> b.length = k -> out.length + 14 ^ m <= 100000 -> Z0w N f x b q out d q d = some (out ++ emb d q.2.1 m k x b)
 | _, 0, _, _, _, _, hf, _, _, _, _ => om
 | 0, f + 1, k, x, b, out, hf, hk, hx, hfs, ho => by
  have G := h.as3;have J := h.n4;have e : (b.length : Int) = (q.2.1.length : Int) :=om;simp only [zS, Z0w, Z4r, beqI, J2 e, Y17 (N := N) (s := x) om, Y17 (N := N) (s := b) om, emb];rw [Y3];rfl
 | m + 1, f + 1, k, x, b, out, hf, hk, hx, hfs, ho => by
  have G := h.as3;have J := h.n4;have H := h.few;have v : ¬ (b.length : Int) = (q.2.1.length : Int) :=om;have u : k < q.2.1.length :=om;have c : b.length < q.2.1.length :=om;have K := p14 (m := m) om;have E : at_ (0, []) q.2.1 (b.length : Int) = atomAt q.2.1 k := by rw [Y4 c, hfs.symm]; exact (Y2 c).symm
  rw [Nat.pow_succ] at ho;simp only [zS, Z0w, Z4r, beqI, J7 v, Y1 c, E];have := loop (fun t (j : Nat) => Z36 N (Z0w N f) t x b (out ++ (List.range j).flatMap fun i => match meetA (atomAt q.2.1 k) (factAt d i) x with
    | some y => emb d q.2.1 m (k + 1) y (b ++ [(i : Int)])
    | none => []) q d (atomAt q.2.1 k).1 (atomAt q.2.1 k).2 d.2 (d.2.length : Int) (j : Int)) (fun j => j <= d.2.length) (fun j => d.2.length - j) (fun o => o = some (out ++ emb d q.2.1 (m + 1) k x b)) (fun t j I => by
   simp only [Z36, Z5y];by_cases g : j < d.2.length
   ·right;refine ⟨j + 1, g, om, ?_⟩;have D : (j : Int) < (d.2.length : Int) :=om;have r : ∀ j, j <= 13 -> j < d.2.length -> ((List.range j).flatMap fun i => match meetA (atomAt q.2.1 k) (factAt d i) x with
      | some y => emb d q.2.1 m (k + 1) y (b ++ [(i : Int)])
      | none => []).length <= 13 * 14 ^ m := fun j l _ => by
     have := Yl (n := 14 ^ m) (a := List.range j) (piece := fun i => match meetA (atomAt q.2.1 k) (factAt d i) x with
      | some y => emb d q.2.1 m (k + 1) y (b ++ [(i : Int)])
      | none => []) fun i _ => by
       split
       ·exact Y1l H m _ _ _
       ·simp
     rw [Js] at this;exact Ji this (J1s _ l)
    have A := r j om g;have F : at_ (0, []) d.2 (j : Int) = factAt d j := Yc g;simp only [zS, D, Y1 g, F, bneI, Y0 (j := j)];rw [J1a, List.flatMap_append];by_cases e : (factAt d j).1 = (atomAt q.2.1 k).1
    ·obtain ⟨y, B, C⟩ := Y7c h w u g e hx;rw [J2 e, Ja, J1, B, J0];cases p : meetA (atomAt q.2.1 k) (factAt d j) x with
     | none => grind
     | some z =>
      obtain rfl := C z p;simp only [zS, Option.isSome_some, J1n, List.flatMap_nil, p, Jk, Y17 (N := N) (s := b) om];rw [Y3, grd_true, Y5j h w m f (k + 1) y (b ++ [(j : Int)]) _ om om ((Y4m p).trans hx) (by simp; omega) gr, J0, J1d]
    ·have p : meetA (atomAt q.2.1 k) (factAt d j) x = none := by unfold meetA; rw [Jn e]
     rw [J7 e, Jw, J3];simp [p]
   ·left;have : j = d.2.length :=om;subst this;simp [J1];rfl) N 0 om om
  simpa using this
theorem Y7d {N n : Nat} (e : n <= 4) (d : 1048576 < N) : Z6t N (n : Int) = some (List.replicate n (-1)) := by
 have := loop (fun k (j : Nat) => Z7e N k (n : Int) (List.replicate j (-1))) (fun j => j <= n) (fun j => n - j) (fun o => o = some (List.replicate n (-1))) (fun k j c => by
  simp only [Z7e, Z0a2, List.length_replicate];by_cases b : j < n
  ·right;refine ⟨j + 1, b, om, ?_⟩;have a : (j : Int) < (n : Int) :=om;rw [J2 a, J3, Y3 om gr, grd_true, List.replicate_succ']
  ·grind) N 0 om om
 exact this
theorem Y7e {N n : Nat} (a : n <= 4) : Z5x N (n : Int) = some (List.replicate n (-1)) := by
 unfold Z5x Z7j;have e : (decide (([-1] : List Int).length = 1) && (decide ((0 : Int) <= (n : Int)) && decide ((n : Int) * 8 <= 140737488355328))) = true := by
  rw [J8, J8, J6, J6, J6];exact ⟨rfl, om, om⟩
 rw [e, grd_true, Jm];rfl
def embs (d : Db) (q : Qry) : List (List Int × List Int) := if queryFor d q then emb d q.2.1 q.2.1.length 0 (List.replicate q.1.toNat (-1)) [] else []
theorem Y4n {d : Db} {q : Qry} (h : SmallDb d) (g : q.2.2.length <= 1048576) (b : 1048576 < N) : Z1j N d q = some (embs d q) := by
 unfold Z1j embs;rw [Ym h g b, J0];cases a : queryFor d q with
 | false => rfl
 | true =>
  have c := qOk a;have f := c.n4;have j := c.as3;have i : 0 <= q.1 := by
   unfold queryFor validQ at a;simp at a;exact a.2.2.1.1
  have e : Z6t N q.1 = some (List.replicate q.1.toNat (-1)) := by
   have := Y7d (N := N) f b
   rwa [show ((q.1.toNat : Nat) : Int) = q.1 by omega] at this
  rw [Ja, J1, e, J0, Jc rfl];have := Y5i c b q.2.1.length N 0 (List.replicate q.1.toNat (-1)) [] om om sm rfl;rw [show ((0 : Nat) : Int) = 0 from rfl] at this;unfold Z8c;rw [this];rfl
theorem Y7f {d : Db} {q : Qry} (h : SmallDb d) (i : q.2.2.length <= 1048576) (c : 1048576 < N) : Z33 N d q = some (embs d q) := by
 unfold Z33 embs;rw [Yq h i c, J0];cases a : queryFor d q with
 | false => rfl
 | true =>
  have b := qOk a;have g := b.n4;have f := b.as3;have j : 0 <= q.1 := by
   unfold queryFor validQ at a;simp at a;exact a.2.2.1.1
  have e : Z5x N q.1 = some (List.replicate q.1.toNat (-1)) := by
   have := Y7e (N := N) g
   rwa [show ((q.1.toNat : Nat) : Int) = q.1 by omega] at this
  have k := p14 f;rw [Ja, J1, e, J0, Jc rfl];have := Y5j b c q.2.1.length N 0 (List.replicate q.1.toNat (-1)) [] [] om om sm rfl (by simp; omega);unfold Z32;rw [this];rfl
theorem Y7g {d : Db} (h : SmallDb d) (f : d.2.length <= 14) (e : 1048576 < N) : Z40 N d = some d := by
 have g := h.rels;unfold Z40 Z95;rw [Y3, grd_true];have := loop (fun k (s : Nat) => Z4q N k [] [] d.1 (d.2.take s) d.2 (d.2.length : Int) (s : Int)) (fun s => s <= d.2.length) (fun s => d.2.length - s) (fun o => o = some d) (fun k j i => by
  simp only [Z4q, Z7w];by_cases a : j < d.2.length
  ·right;refine ⟨j + 1, a, om, ?_⟩;have b : (j : Int) < (d.2.length : Int) :=om;have c := h.vals _ (J4 a);simp only [zS, b, Y1 a, Y4 a];rw [Y3, grd_true, Y3, grd_true, Y0, J5 a]
  ·left;have b : ¬ (j : Int) < (d.2.length : Int) :=om;simp only [zS, b];rw [Jp om]) N 0 om om
 simpa using this
theorem Y4o {N : Nat} {d : Db} {l : List Int} (a : ∀ x ∈ l, 0 <= x /\ x < (d.2.length : Int)) (i : l.length <= 14) : ∀ (f j : Nat), l.length - j < f -> j <= l.length -> Z57 N f [] [] d.1 d.2 d.1 ((l.take j).map fun x => factAt d x.toNat) l (l.length : Int) (j : Int) = some (subDb d l, true)
 | 0, j, hf, _ => om
 | f + 1, j, hf, hj' => by
  simp only [Z57, Z8a];by_cases b : j < l.length
  ·have g : (j : Int) < (l.length : Int) :=om;have c := a _ (J4 b);have h : (l[j]).toNat < d.2.length :=om;have e : at_ (0, []) d.2 l[j] = factAt d (l[j]).toNat := by
    have := Yc h
    rwa [show (((l[j]).toNat : Nat) : Int) = l[j] by omega] at this
   simp only [zS, g, Y1 b, Y4 b, Y8 c.1 c.2, e];rw [Y3, grd_true, Y0];have := Y4o (N := N) a i f (j + 1) om b;rw [J5 b, Jx] at this;exact this
  ·have : j = l.length :=om;subst this;simp only [zS, J10, J18];rfl
theorem Y4p {d : Db} {l : List Int} (h : SmallDb d) (c : validDb d = true) (p : l.Pairwise (· < ·)) (a : ∀ x ∈ l, 0 <= x /\ x < (d.2.length : Int)) (o : l.length <= 14) (f : 1048576 < N) : Z4g N d l = some (subDb d l, true) := by
 have n := (Y5 c).few;unfold Z4g Z9m;rw [Y1u h f, J0, c, Ja, J1, Y3f h.facts om f, J0, Yx p a, Ja, J1, Y7g h n f, J0];obtain ⟨M, rfl⟩ : ∃ M, N = M + 1 := ⟨N - 1, om⟩;simp only [Z6y, Z8b];by_cases k : (0 : Int) < (l.length : Int)
 ·have b : 0 < l.length :=om;have g := a _ (J4 b);have m : (l[0]).toNat < d.2.length :=om;have e : at_ (0, []) d.2 l[0] = factAt d (l[0]).toNat := by
   have := Yc m
   rwa [show (((l[0]).toNat : Nat) : Int) = l[0] by omega] at this
  have i : at_ 0 l 0 = l[0] := Y4 (j := 0) b;have i0 : inb 0 l = true := Y1 (j := 0) b;simp only [zS, J2 k, i0, i, Y8 g.1 g.2, e];rw [Y3, grd_true];have := Y4o (N := M + 1) (d := d) a o M 1 om b;rw [show w64 ((0 : Int) + 1) = ((1 : Nat) : Int) from Y0 (j := 0)];have q : l.take 1 = [l[0]] := by
   rw [show 1 = 0 + 1 from rfl, J5 b];simp
  rw [q] at this;exact this
 ·have : l = [] := List.length_eq_zero_iff.1 om;subst this;rfl
theorem Y24 {d : Db} {l : List Int} (h : SmallDb d) (a : ∀ x ∈ l, 0 <= x /\ x < (d.2.length : Int)) (e : l.length <= 14) : SmallDb (subDb d l) := ⟨h.rels, by simp [subDb]; omega, fun f b => by
  obtain ⟨x, c, rfl⟩ := Je.1 b;have := a x c;exact Y13 h om⟩
theorem Y6q {d : Db} {l : List Int} {q : Qry} (h : SmallDb d) (b : validDb d = true) (g : l.Pairwise (· < ·)) (a : ∀ x ∈ l, 0 <= x /\ x < (d.2.length : Int)) (e : l.length <= 14) (f : q.2.2.length <= 1048576) (c : 1048576 < N) : Z45 N d l q = some (decide (((embs (subDb d l) q).length : Int) > 0)) := by
 unfold Z45;rw [Y4p h b g a e c, J0];simp only [J3];rw [Y7f (Y24 h a e) f c, J0]
def putIn (l : List Int) (x : Int) : Nat -> List Int
 | 0 => x :: l
 | k + 1 => if l.getD k 0 > x then putIn l x k else l.take (k + 1) ++ x :: l.drop (k + 1)
theorem Yz (l : List Int) (x : Int) : ∀ k, k <= l.length -> ∃ j, j <= k /\ putIn l x k = l.take j ++ x :: l.drop j /\ (∀ i (hi : i < l.length), j <= i -> i < k -> l[i] > x) /\ (0 < j -> ∃ (n : j - 1 < l.length), ¬ l[j - 1] > x)
 | 0, _ => ⟨0, J16 _, by simp [putIn], fun i hi f c => by omega, fun h => om⟩
 | k + 1, hk => by
  have a : k < l.length :=om;simp only [putIn, Y2 a];by_cases h : l[k] > x
  ·rw [Jc h];obtain ⟨j, f, c, g, m⟩ := Yz l x k om;refine ⟨j, om, c, fun i hi b d => ?_, m⟩;by_cases e : i = k
   ·subst e; exact h
   ·exact g i hi b om
  ·rw [Jn h];exact ⟨k + 1, J16 _, rfl, fun i hi b d => by omega, fun _ => ⟨om, by simpa using h⟩⟩
theorem Y3q {l : List Int} {x y : Int} : y ∈ putIn l x l.length ↔ y = x \/ y ∈ l := by
 obtain ⟨j, _, e, _, _⟩ := Yz l x l.length (J16 _);rw [e, Jv, Jf];have a : y ∈ l ↔ y ∈ l.take j \/ y ∈ l.drop j := by
  conv => lhs; rw [<- List.take_append_drop j l]
  rw [Jv]
 rw [a];constructor
 ·rintro (h | h | h)
  ·exact .inr (.inl h)
  ·exact .inl h
  ·exact .inr (.inr h)
 ·rintro (h | h | h)
  ·exact .inr (.inl h)
  ·exact .inl h
  ·exact .inr (.inr h)
theorem Y3r {l : List Int} {x : Int} : (putIn l x l.length).length = l.length + 1 := by
 obtain ⟨j, a, e, _, _⟩ := Yz l x l.length (J16 _);rw [e];simp only [J1b, J17, List.length_cons, List.length_drop];omega
def sortI : List Int -> List Int -> List Int
 | [], out => out
 | x :: l, out => sortI l (putIn out x out.length)
theorem Y3s {N k : Nat} {l out : List Int} {s : Nat} (a : s < l.length) (e : l.length <= 1000) (g : out.length <= 1000) : ∀ (f t : Nat), t < f -> t <= out.length -> Z5g (Z3i N k) N f l out (s : Int) (t : Int) = Z3i N k l (putIn out l[s] t) ((s + 1 : Nat) : Int)
 | 0, t, hf, _ => om
 | f + 1, 0, hf, ht => by
  have b : ¬ ((0 : Nat) : Int) > 0 :=om;simp only [zS, Z5g, Z7h, b, Jm, Y1 a, Y4 a];rw [show subOk 0 ((0 : Nat) : Int) out.length = true by simp [subOk], grd_true, Y3, grd_true, Y3, grd_true, show subOk ((0 : Nat) : Int) (out.length : Int) out.length = true by simp [subOk], grd_true, Y3, grd_true, Y0];simp [putIn]
 | f + 1, t + 1, hf, ht => by
  have b : ((t + 1 : Nat) : Int) > 0 :=om;have c : t < out.length := ht;have d : w64 (((t + 1 : Nat) : Int) - 1) = (t : Int) := by rw [Y6]; omega
  simp only [zS, Z5g, Z7h, b, d, Y1 c, Y4 c, Y1 a, Y4 a, putIn, Y2 c, Jm];by_cases h : out[t] > l[s]
  ·rw [J2 h, J3, Jc h];exact Y3s a e g f t om om
  ·rw [J7 h, J1, Jn h];rw [show subOk 0 ((t + 1 : Nat) : Int) out.length = true by simp [subOk]; omega, grd_true, Y3, grd_true, Y3, grd_true, show subOk ((t + 1 : Nat) : Int) (out.length : Int) out.length = true by simp [subOk]; omega, grd_true, Y3, grd_true, Y0];simp
theorem Y3t : ∀ (l out : List Int), (sortI l out).length = l.length + out.length
 | [], out => by simp [sortI]
 | x :: l, out => by rw [sortI, Y3t l, Y3r]; simp; omega
theorem Y1d {y : Int} : ∀ (l out : List Int), y ∈ sortI l out ↔ y ∈ l \/ y ∈ out
 | [], out => by simp [sortI]
 | x :: l, out => by rw [sortI, Y1d l, Y3q, Jf, or_left_comm, or_assoc]
theorem Y3u {N : Nat} {l : List Int} (c : l.length <= 900) (b : 1048576 < N) : ∀ (f s : Nat) (out : List Int), l.length - s < f -> s <= l.length -> out.length = s -> Z3i N f l out (s : Int) = some (sortI (l.drop s) out)
 | 0, s, out, hf, _, _ => om
 | f + 1, s, out, hf, hs, ho => by
  simp only [Z3i, Z9n];by_cases h : s < l.length
  ·have a : (s : Int) < (l.length : Int) :=om;rw [J2 a, J3, Y3s h om om N out.length om (J16 _), Y3u c b f (s + 1) _ om h (by rw [Y3r, ho]), J9 h, sortI]
  ·have a : ¬ (s : Int) < (l.length : Int) :=om;rw [J7 a, J1, List.drop_eq_nil_of_le om, sortI]
theorem Y7h {l : List Int} (b : l.length <= 900) (a : 1048576 < N) : Z69 N l = some (sortI l []) := by
 have := Y3u b a N 0 [] om om rfl;simpa [Z69, Z0at] using this
theorem Y4q {l : List Int} {x : Int} (t : l.Pairwise (· < ·)) (u : x ∉ l) : (putIn l x l.length).Pairwise (· < ·) := by
 obtain ⟨j, v, e, o, p⟩ := Yz l x l.length (J16 _);rw [e];have c : (l.take j ++ l.drop j).Pairwise (· < ·) := by simp_all
 rw [List.pairwise_append] at c;rw [List.pairwise_append, Ju];have m : ∀ a ∈ l.take j, a < x := by
  intro a f;obtain ⟨i, hi, rfl⟩ := Jd.1 f;have q : i < j :=gr;obtain ⟨g, r⟩ := p om;rw [J1z];have s : l[j - 1] ≠ x := fun e => u (e ▸ J4 g);have d : i < l.length :=om;have : l[i] <= l[j - 1] := by
   by_cases h : i = j - 1
   ·grind
   ·have := Jl.1 t i (j - 1) d g om;omega
  omega
 have k : ∀ a ∈ l.drop j, x < a := by
  intro a f;obtain ⟨i, hi, rfl⟩ := Jd.1 f;rw [List.getElem_drop];have d : j + i < l.length :=gr;exact o (j + i) d om d
 refine ⟨c.1, ⟨k, c.2.1⟩, fun a f b n => ?_⟩;rcases Jf.1 n with rfl | n
 ·exact m a f
 ·grind
theorem Y25 : ∀ (l out : List Int), l.Nodup -> (∀ x ∈ l, x ∉ out) -> out.Pairwise (· < ·) -> (sortI l out).Pairwise (· < ·)
 | [], out, _, _, hs => hs
 | x :: l, out, hn, hd, hs => by
  rw [List.nodup_cons] at hn;refine Y25 l _ hn.2 (fun y a h => ?_) (Y4q hs (hd x J1w));rcases Y3q.1 h with rfl | h
  ·exact hn.1 a
  ·grind
def chain (d : Db) (as : List Atm) : Nat -> List Int -> List Int -> Option (List Int)
 | _, x, [] => some x
 | k, x, g :: gs => match meetA (atomAt as k) (factAt d g.toNat) x with
  | some y => chain d as (k + 1) y gs
  | none => none
theorem Yu {d : Db} {as : List Atm} {e : List Int × List Int} : ∀ (m k : Nat) (x l : List Int), e ∈ emb d as m k x l ↔ ∃ c : List Int, c.length = m /\ (∀ g ∈ c, 0 <= g /\ g < (d.2.length : Int)) /\ chain d as k x c = some e.1 /\ e.2 = l ++ c
 | 0, k, x, l => by
  simp only [emb, J14];constructor
  ·rintro rfl
   exact ⟨[], rfl, sm, rfl, sm⟩
  ·rintro ⟨c, h, -, f, j⟩
   have : c = [] := List.length_eq_zero_iff.1 h;subst this;simp only [chain, J1m] at f;obtain ⟨a, b⟩ := e;simp only [Jk] at j;simp only at f;rw [f, j]
 | m + 1, k, x, l => by
  simp only [emb, J13, Jj];constructor
  ·rintro ⟨i, hi, p⟩
   split at p
   ·rename_i y r;obtain ⟨c, h, n, f, j⟩ := (Yu m (k + 1) y (l ++ [(i : Int)])).1 p;refine ⟨(i : Int) :: c, by simp [h], fun g o => ?_, ?_, by rw [j, J1d]; rfl⟩
    ·rcases Jf.1 o with rfl | o
     ·omega
     ·exact n g o
    ·simp only [chain, Jm, r];exact f
   ·cases p
  ·rintro ⟨c, h, n, f, j⟩
   match c with
   | [] => simp at h
   | g :: c =>
    have o := n g J1w;refine ⟨g.toNat, om, ?_⟩;simp only [chain] at f;split at f
    ·rename_i y r
     try simp only [r]
     refine (Yu m (k + 1) y _).2 ⟨c, by simpa using h, fun s q => n s (List.mem_cons_of_mem _ q), f, ?_⟩;rw [j, J1d, show ((g.toNat : Nat) : Int) = g by omega];rfl
    ·cases f
theorem Y26 {d : Db} {as : List Atm} : ∀ (a : List Int) (k : Nat) (x y : List Int), chain d as k x a = some y -> ∀ j (h : j < a.length), (factAt d (a[j]).toNat).1 = (atomAt as (k + j)).1
 | [], k, x, y, _, j, h => by simp at h
 | g :: a, k, x, y, hc, j, h => by
  simp only [chain] at hc;split at hc
  ·rename_i z b;cases j with
   | zero =>
    unfold meetA at b;split at b
    ·rename_i e; exact e
    ·cases b
   | succ j =>
    have := Y26 a (k + 1) z y hc j (by simpa using h);rw [show k + (j + 1) = k + 1 + j by omega];exact this
  ·cases hc
theorem Y27 {d : Db} {as : List Atm} {s : List Int} : ∀ (a : List Int) (k : Nat) (x : List Int), (∀ g ∈ a, 0 <= g /\ g < (s.length : Int)) -> chain (subDb d s) as k x a = chain d as k x (a.map fun g => s.getD g.toNat 0)
 | [], k, x, _ => rfl
 | g :: a, k, x, h => by
  have f := h g J1w;have c : g.toNat < s.length :=om;simp only [chain, List.map_cons, Ys c, Y2 c];split
  ·exact Y27 a _ _ fun e b => h e (List.mem_cons_of_mem _ b)
  ·rfl
theorem Y54 {d : Db} {q : Qry} (h : queryFor d q = true) {i j : Nat} (hi : i < j) (g : j < q.2.1.length) : (atomAt q.2.1 i).1 ≠ (atomAt q.2.1 j).1 := by
 unfold queryFor validQ at h;simp only [J8, J6] at h;obtain ⟨_, _, _, _, f, _, _⟩ := h;have a : atomOk d.1 q.1.toNat q.2.1 j = true := of_decide_eq_true f j g;unfold atomOk at a;simp only [J8, J6] at a;have b := a.2.2.1;unfold newRel at b;rw [J1o, List.any_eq_false] at b;intro e;refine b (atomAt q.2.1 i) ?_ (J2 e);have c : i < q.2.1.length :=om;unfold atomAt;rw [Y2 c];exact Jd.2 ⟨i, by simp; omega, by rw [J1z]⟩
structure EmbOk (d : Db) (e : List Int × List Int) : Prop where
 few : e.2.length <= 3
 ins : ∀ x ∈ e.2, 0 <= x /\ x < (d.2.length : Int)
 apart : ∀ i j (hi : i < j) (hj : j < e.2.length), (factAt d (e.2[i]' om).toNat).1 ≠ (factAt d (e.2[j]).toNat).1
theorem Y4r {d : Db} {q : Qry} {e : List Int × List Int} (c : e ∈ embs d q) : queryFor d q = true /\ EmbOk d e := by
 unfold embs at c;split at c
 ·rename_i h;obtain ⟨o, p, n, f, g⟩ := (Yu _ _ _ _).1 c;rw [J1i] at g;have r := (qOk h).as3;obtain ⟨a, b⟩ := e;simp only at g f;subst g;refine ⟨h, ⟨by simp only; omega, n, fun i j hi k => ?_⟩⟩;simp only at k;have l := Y26 b 0 _ _ f i om;have m := Y26 b 0 _ _ f j k;rw [Nat.zero_add] at l m;simp only;rw [l, m];exact Y54 h hi om
 ·cases c
theorem EmbOk.nodup {d : Db} {e : List Int × List Int} (h : EmbOk d e) : e.2.Nodup := by
 rw [List.Nodup, Jl];intro i j hi c a b;exact h.apart i j a c (by rw [b])
theorem Y6r {d : Db} {q : Qry} {s : List Int} (o : validDb d = true) (G : s.Pairwise (· < ·)) (m : ∀ x ∈ s, 0 <= x /\ x < (d.2.length : Int)) (D : s.length <= 14) : (embs (subDb d s) q).length > 0 ↔ ∃ e ∈ embs d q, ∀ x ∈ e.2, x ∈ s := by
 have F : queryFor (subDb d s) q = queryFor d q := by
  unfold queryFor;rw [o, Y3l o G m D];rfl
 have f : (subDb d s).2.length = s.length := by simp [subDb]
 unfold embs;rw [F];by_cases h : queryFor d q = true
 ·rw [Jc h, Jc h];constructor
  ·intro E;obtain ⟨e, w⟩ := List.exists_mem_of_length_pos E;obtain ⟨b, u, p, r, v⟩ := (Yu _ _ _ _).1 w;rw [f] at p;rw [Y27 b _ _ p] at r;have B : ∀ g ∈ b, s.getD g.toNat 0 ∈ s := fun g l => by
    have := p g l;rw [Y2 (show g.toNat < s.length by omega)];exact J4 _
   refine ⟨(e.1, b.map fun g => s.getD g.toNat 0), (Yu _ _ _ _).2 ⟨b.map fun g => s.getD g.toNat 0, by simpa using u, fun g l => ?_, r, sm⟩, fun x c => ?_⟩
   ·obtain ⟨t, i, rfl⟩ := Je.1 l;exact m _ (B t i)
   ·obtain ⟨t, i, rfl⟩ := Je.1 c;exact B t i
  ·rintro ⟨e, w, k⟩
   obtain ⟨b, u, p, r, v⟩ := (Yu _ _ _ _).1 w;rw [J1i] at v;rw [v] at k;have z : ∀ x, x ∈ s -> ∃ j, j < s.length /\ s.getD j 0 = x := fun x c => by
    obtain ⟨j, A, e⟩ := Jd.1 c;exact ⟨j, A, by rw [Y2 A, e]⟩
   have y : ∀ x ∈ b, (s.idxOf x) < s.length /\ s.getD (s.idxOf x) 0 = x := fun x c => by
    have := List.idxOf_lt_length_of_mem (k x c);exact ⟨this, by rw [Y2 this]; exact List.getElem_idxOf this⟩
   have n : (b.map fun x => ((s.idxOf x : Nat) : Int)).map (fun g => s.getD g.toNat 0) = b := by
    rw [List.map_map]
    conv => rhs; rw [<- List.map_id b]
    exact J1g fun x c => by simpa using (y x c).2
   have C : ∀ g ∈ b.map (fun x => ((s.idxOf x : Nat) : Int)), 0 <= g /\ g < (s.length : Int) := fun g l => by
    obtain ⟨x, c, rfl⟩ := Je.1 l;have := (y x c).1;omega
   refine List.length_pos_of_mem (a := (e.1, b.map fun x => ((s.idxOf x : Nat) : Int))) ((Yu _ _ _ _).2 ⟨b.map fun x => ((s.idxOf x : Nat) : Int), by simpa using u, by rw [f]; exact C, ?_, sm⟩);rw [Y27 _ _ _ C, n];exact r
 ·rw [Jn h, Jn h];simp
def cov (d : Db) (q : Qry) (s : List Int) : Bool := (embs d q).any fun e => e.2.all fun x => decide (x ∈ s)
def need (d : Db) (q : Qry) : List (List Int) := (embs d q).map fun e => sortI e.2 []
theorem Y3v {d : Db} {q : Qry} {s : List Int} (b : validDb d = true) (e : s.Pairwise (· < ·)) (a : ∀ x ∈ s, 0 <= x /\ x < (d.2.length : Int)) (c : s.length <= 14) : decide (((embs (subDb d s) q).length : Int) > 0) = cov d q s := by
 rw [J1h, J6];unfold cov;simp only [J1p, Jg, J6];rw [show (((embs (subDb d s) q).length : Int) > 0) ↔ (embs (subDb d s) q).length > 0 by omega, Y6r b e a c]
theorem Y4s {d : Db} {q : Qry} : (embs d q).length <= 2744 := by
 unfold embs;split
 ·rename_i h;have a := qOk h;exact Ji (Y1l a.few _ _ _ _) (p14 a.as3)
 ·simp
theorem Y5k {d : Db} {q : Qry} {e : List Int × List Int} (c : e ∈ embs d q) : (sortI e.2 []).Pairwise (· < ·) /\ (∀ x ∈ sortI e.2 [], 0 <= x /\ x < (d.2.length : Int)) /\ (sortI e.2 []).length <= 3 := by
 obtain ⟨h, b⟩ := Y4r c;refine ⟨Y25 _ _ b.nodup sm List.Pairwise.nil, fun x a => ?_, ?_⟩
 ·rw [Y1d] at a;rcases a with a | a
  ·exact b.ins x a
  ·cases a
 ·have := b.few;rw [Y3t]; simp; omega
theorem Y5w {d : Db} {e : List Int × List Int} (c : EmbOk d e) : ∀ x ∈ sortI e.2 [], ∀ y ∈ sortI e.2 [], x ≠ y -> (factAt d x.toNat).1 ≠ (factAt d y.toNat).1 := by
 intro x a y b g;rw [Y1d] at a b;have a := a.resolve_right sm;have b := b.resolve_right sm;obtain ⟨i, hi, rfl⟩ := Jd.1 a;obtain ⟨j, f, rfl⟩ := Jd.1 b;rcases Nat.lt_trichotomy i j with h | h | h
 ·exact c.apart i j h f
 ·grind
 ·exact fun e => c.apart j i h hi e.symm
theorem Y5x {d : Db} {q : Qry} {e : List Int × List Int} (h : SmallDb d) (r : e ∈ embs d q) (n : 1048576 < N) : Z24 N d (sortI e.2 []) = some true := by
 obtain ⟨o, u⟩ := Y4r r;obtain ⟨l, m, v⟩ := Y5k r;have j : validDb d = true := by unfold queryFor at o; rw [J8] at o; exact o.1
 have f := Y5w u;generalize sortI e.2 [] = w at l m v f;have b := Y3l j l m om;have i := Y24 h m om;have a : (subDb d w).2.length = w.length := by simp [subDb]
 have p : (blocksOf (subDb d w)).length = w.length := by
  unfold blocksOf;rw [Jc b, Jr];unfold B;rw [Jr, a];unfold sts;rw [List.filter_eq_self.2, Js];intro s g;have g := Jj.1 g;rw [Yd];intro k t;have c : k < w.length :=om;have x := Jl.1 l k s c g t;have := f _ (J4 g) _ (J4 c) om;unfold sameD sameK;rw [Ys g, Ys c, J7 this, J12]
 unfold Z24;rw [Y5h h j l m om n, J0];simp [J3];unfold Z4x;rw [Yf i n, J0, b, J3, Y32 i n, J0, p, a];simp
theorem Y1t {d : Db} {q : Qry} (h : SmallDb d) (n : q.2.2.length <= 1048576) (c : 1048576 < N) : Z5i N d q = some (need d q) := by
 have f := Y4s (d := d) (q := q);unfold Z5i Z0aa;rw [Y4n h n c, J0];have := loop (fun k (s : Nat) => Z6g N k d.1 d.2 (((embs d q).take s).map fun e => sortI e.2 []) (embs d q) (s : Int)) (fun s => s <= (embs d q).length) (fun s => (embs d q).length - s) (fun o => o = some (need d q)) (fun k j l => by
  simp only [Z6g, Z97];by_cases a : j < (embs d q).length
  ·right;refine ⟨j + 1, a, om, ?_⟩;have b : (j : Int) < ((embs d q).length : Int) :=om;have g := J4 a;have i := (Y4r g).2.few;have m : Z24 N (d.1, d.2) (sortI ((embs d q)[j]).2 []) = some true := Y5x h g c;simp only [zS, b, Y1 a, Y4 a];rw [Y7h om c, J0, m, J0, J3, Y3, grd_true, Y0, J5 a, Jx];rfl
  ·left;have b : ¬ (j : Int) < ((embs d q).length : Int) :=om;simp only [zS, b];rw [Jp om];rfl) N 0 om om
 exact this
theorem Y2u {N k : Nat} {l : List (List Int)} {s : List Int} (e : s.length <= 1048576) (d : 1048576 < N) {i : Nat} (hi : i < l.length) (a : i <= 1048576) : ∀ (f t : Nat) (b : Bool), (l[i]).length - t < f -> t <= (l[i]).length -> (l[i]).length <= 1048576 -> Z8f (Z3v N k) N f l s (i : Int) b (t : Int) = if (b && ((l[i]).drop t).all fun x => decide (x ∈ s)) then some true else Z3v N k l s ((i + 1 : Nat) : Int)
 | 0, t, b, hf, _, _ => om
 | f + 1, t, b, hf, ht, hw => by
  simp only [Z8f, Z0ab, Y1 hi, Y4 hi, grd_true];by_cases h : t < (l[i]).length
  ·have c : (t : Int) < ((l[i]).length : Int) :=om;rw [J2 c, J3, Y1 h, Y4 h, grd_true, Y0, J9 h, List.all_cons];cases b with
   | false =>
    rw [J1, Y2u e d hi a f (t + 1) false om h hw];simp
   | true =>
    rw [J3, Y3g e d, J0, Y2u e d hi a f (t + 1) _ om h hw];simp
  ·have c : ¬ (t : Int) < ((l[i]).length : Int) :=om;rw [J7 c, J1, List.drop_eq_nil_of_le om, Y0];cases b <;> simp
theorem Y55 {l : List (List Int)} {s : List Int} (f : s.length <= 1048576) (o : l.length <= 1048576) (b : ∀ w ∈ l, w.length <= 1048575) (e : 1048576 < N) : Z4k N l s = some (l.any fun w => w.all fun x => decide (x ∈ s)) := by
 unfold Z4k Z8z Z0bl;rw [Yb (n := l.length) (fun j => !((l.getD j []).all fun x => decide (x ∈ s))) (some true) (some false) (fun k i => Z3v N k l s i) (fun k => by simp [Z3v, Z8u]) (fun k j a => ?_) om]
 ·by_cases h : (l.any fun w => w.all fun x => decide (x ∈ s)) = true
  ·rw [h, Jn, J0];intro c;obtain ⟨w, b, g⟩ := J1p.1 h;obtain ⟨j, a, rfl⟩ := Jd.1 b;have := c j a;rw [Y2 a, g] at this;cases this
  ·grind
 ·have d : (j : Int) < (l.length : Int) :=om;have m := b _ (J4 a);simp only [zS, Z3v, Z8u, d];have := Y2u (k := k) (l := l) f e a om N 0 true om om om;rw [J1u, Jb] at this;rw [show ((0 : Nat) : Int) = 0 from rfl] at this;rw [this, Y2 a];cases (l[j].all fun x => decide (x ∈ s)) <;> simp
theorem Y5l {d : Db} {q : Qry} {s : List Int} (f : s.length <= 1048576) (b : 1048576 < N) : Z4k N (need d q) s = some (cov d q s) := by
 have a := Y4s (d := d) (q := q);rw [Y55 f (by unfold need; rw [Jr]; omega) (fun w g => by
  obtain ⟨e, c, rfl⟩ := Je.1 g;have := (Y5k c).2.2;omega) b]
 unfold need cov;rw [List.any_map];congr 1;apply congrArg (fun p => List.any (embs d q) p);funext e;simp;rw [J1h];simp [Jg, Y1d]
theorem Y36 {d : Db} {l : List Con} {r : List Int} (a : r ∈ subsets d l) : validDb d = true /\ r.Pairwise (· < ·) /\ (∀ x ∈ r, 0 <= x /\ x < (d.2.length : Int)) /\ r.length <= 14 := by
 have b := (Ya d l).2 r a;have c := Y3i d l r a;unfold subsets at a;by_cases e : validDb d = true
 ·rw [Jc e] at a;unfold maxSets at a;split at a
  ·have := of_decide_eq_true (Y15 _ _ _ r a);refine ⟨e, c, fun x h => ?_, b⟩;obtain ⟨j, g, rfl⟩ := Jd.1 h;have f := this j g;rw [Y2 g] at f;simp only [J8, J6] at f;omega
  ·simp at a
 ·rw [Jn e] at a; simp at a
def allHold (d : Db) (l : List Con) (q : Qry) : Bool := queryFor d q && (subsets d l).all (cov d q)
theorem Y56 {d : Db} {l : List Con} {q : Qry} (h : SmallDb d) (u : l.length <= 1048576) (i : q.2.2.length <= 1048576) (b : 1048576 < N) : Z2l N d l q = some (allHold d l q) := by
 have m := (Ya d l).1;unfold Z2l Z1o Z48 Z9t;rw [Y2i h u b, J0, Y1t h i b, J0, Ym h i b];have e : Z0x N (d.1, d.2) (q.1, q.2.1, q.2.2) = some (queryFor d q) := Ym h i b;unfold allHold;cases n : queryFor d q with
 | false =>
  obtain ⟨M, rfl⟩ : ∃ M, N = M + 1 := ⟨N - 1, om⟩;simp only [zS, Z2k, Z4y, e, n, J12];cases decide ((0 : Int) < ((subsets d l).length : Int)) <;> rfl
 | true =>
  have := loop (fun k (s : Nat) => (Z2k N k (subsets d l) false d.1 d.2 q.1 q.2.1 q.2.2 (need d q) (s : Int)).bind fun p => some p.2) (fun s => s <= (subsets d l).length /\ ((subsets d l).take s).all (cov d q) = true) (fun s => (subsets d l).length - s) (fun o => o = some (!((subsets d l).all (cov d q)))) (fun k j w => by
   obtain ⟨t, f⟩ := w;simp only [Z2k, Z4y];by_cases a : j < (subsets d l).length
   ·have g : (j : Int) < ((subsets d l).length : Int) :=om;have r := (Ya d l).2 _ (J4 a);rw [J2 g, J3, e, J0, n, J3, Y1 a, grd_true, Y4 a, Y5l om b, J0, Y0 (j := j)];cases c : cov d q (subsets d l)[j] with
    | false =>
     left;have v : (subsets d l).all (cov d q) = false := List.all_eq_false.2 ⟨_, J4 a, by rw [c]; simp⟩;rw [v, show (false == false) = true from rfl, J3, grd_true, Y3, grd_true];rfl
    | true =>
     right;refine ⟨j + 1, ⟨a, ?_⟩, om, rfl⟩;rw [J5 a, List.all_append, f];simp [c]
   ·left;have g : ¬ (j : Int) < ((subsets d l).length : Int) :=om;rw [Jp om] at f;rw [J7 g, J1, f];rfl) N 0 om ⟨om, sm⟩
  rw [show ((0 : Nat) : Int) = 0 from rfl] at this;revert this;cases Z2k N N (subsets d l) false d.1 d.2 q.1 q.2.1 q.2.2 (need d q) 0 with
  | none => intro h; cases h
  | some p =>
   intro h;simp only [J0, J1m] at h ⊢;rw [J3, h];simp
def cardN (all : List (List Int)) : Int := all.foldl (fun n s => imax n (s.length : Int)) 0
def cardL (all : List (List Int)) : List (List Int) := all.filter fun s => (s.length : Int) == cardN all
theorem Y3w {a : Type} {p : a -> Bool} {l out : List a} {j : Nat} (h : j < l.length) : out ++ (l.drop j).filter p = (if p l[j] then out ++ [l[j]] else out) ++ (l.drop (j + 1)).filter p := by
 rw [J9 h, List.filter_cons];cases b : p l[j] <;> simp
theorem Y7i {e : Type} {a : List Int} {i : Int} {x : List e} {b : Nat} (h : ∀ k ∈ a, k < i) (c : (x.length + 1) * b <= 140737488355328) : selOk a i x b = true := by
 unfold selOk;rw [J8, Jg];exact ⟨fun k d => J2 (h k d), J2 c⟩
theorem Y6s {b : List Int} {j : Nat} (h : ∀ k ∈ b, k < (j : Int)) : ∀ k ∈ b ++ [(j : Int)], k < ((j + 1 : Nat) : Int) := by
 intro k c;rcases Jv.1 c with a | a
 ·have := h k a; omega
 ·rw [J14] at a; omega
theorem Y6t {j : Nat} : ∀ k ∈ [(j : Int)], k < ((j + 1 : Nat) : Int) := by
 intro k a;rw [J14] at a; omega
theorem Y7j {a : List Int} {j : Nat} (h : ∀ k ∈ a, k < (j : Int)) : ∀ k ∈ a, k < ((j + 1 : Nat) : Int) := by
 intro k b;have := h k b; omega
theorem Y4t {N : Nat} {all : List (List Int)} (a : all.length <= 16384) {n : Int} : ∀ {f j : Nat} {ix : List Int} {out : List (List Int)}, all.length - j < f -> j <= all.length -> out.length <= j -> (∀ k ∈ ix, k < (j : Int)) -> Z1u N f ix out all n (j : Int) = some (out ++ (all.drop j).filter fun s => (s.length : Int) == n) /\ Z1r N f n all ix out all (all.length : Int) (j : Int) = some (out ++ (all.drop j).filter fun s => (s.length : Int) == n)
 | 0, j, ix, out, hf, _, _, _ => om
 | f + 1, j, ix, out, hf, hj, ho, hx => by
  by_cases h : j < all.length
  ·have b : (j : Int) < (all.length : Int) :=om;rw [Y3w h];simp only [zS, Z1u, Z3r, Z1r, Z3m, b, Y1 h, Y4 h, Y0 (j := j)];cases (((all[j]).length : Int) == n) with
   | true =>
    rw [J3, J3, Y7i hx om, grd_true, grd_true];exact Y4t a om h (by simp; omega) (Y6s hx)
   | false => exact Y4t a om h om (Y7j hx)
  ·have : j = all.length :=om;subst this;simp only [zS, Z1u, Z3r, Z1r, Z3m, J10];simp
theorem Y6u {N : Nat} {all : List (List Int)} (b : all.length <= 16384) {n : Int} : ∀ {f j : Nat}, all.length - j < f -> j <= all.length -> all.length < N -> Z1v N f [] all n (j : Int) = some ((all.drop j).filter fun s => (s.length : Int) == n) /\ Z1s N f n all [] all (all.length : Int) (j : Int) = some ((all.drop j).filter fun s => (s.length : Int) == n)
 | 0, j, hf, _, _ => om
 | f + 1, j, hf, hj, hN => by
  by_cases h : j < all.length
  ·have c : (j : Int) < (all.length : Int) :=om;have a := Y3w (p := fun s : List Int => (s.length : Int) == n) (out := []) h;rw [J1i] at a;rw [a];simp only [zS, Z1v, Z3s, Z1s, Z3n, c, Y1 h, Y4 h, Y0 (j := j)];cases (((all[j]).length : Int) == n) with
   | true =>
    rw [J3, J3, show selOk0 ([] : List (List Int)) 24 = true from rfl, grd_true, grd_true];exact Y4t b om h sm Y6t
   | false => exact Y6u b om h hN
  ·have : j = all.length :=om;subst this;simp only [zS, Z1v, Z3s, Z1s, Z3n, J10];simp
theorem Y4u {N : Nat} {all : List (List Int)} (a : all.length <= 16384) (c : 1048576 < N) : ∀ {f j : Nat} {n : Int}, all.length - j < f -> j <= all.length -> n = cardN (all.take j) -> Z1w N f [] all n (j : Int) = some (cardL all) /\ Z1t N f n all [] all (all.length : Int) (j : Int) = some (cardL all)
 | 0, j, n, hf, _, _ => om
 | f + 1, j, n, hf, hj, hn => by
  by_cases h : j < all.length
  ·have b : (j : Int) < (all.length : Int) :=om;simp only [zS, Z1w, Z3t, Z1t, Z3o, b, Y1 h, Y4 h, Y0 (j := j)];exact Y4u a c om h (by rw [J5 h, cardN, List.foldl_append, hn]; rfl)
  ·have : j = all.length :=om;subst this;rw [J18] at hn;subst hn;simp [Z1w, Z3t, Z1t, Z3o, J1];have := Y6u (N := N) a (n := cardN all) (f := N) (j := 0) om om om;simpa [cardL] using this
theorem Y1e {d : Db} {l : List Con} (h : SmallDb d) (b : l.length <= 1048576) (a : 1048576 < N) : Z0i N d l = some (cardL (subsets d l)) := by
 unfold Z0i Z6k;rw [Y2i h b a, J0];exact (Y4u (Ya d l).1 a (f := N) (j := 0) (n := 0) (by have := (Ya d l).1; omega) om (by simp [cardN])).1
theorem Y1f {d : Db} {l : List Con} (h : SmallDb d) (b : l.length <= 1048576) (a : 1048576 < N) : Z0a N d l = some (cardL (subsets d l)) := by
 unfold Z0a Z6i;rw [Y53 h b a, J0];exact (Y4u (Ya d l).1 a (f := N) (j := 0) (n := 0) (by have := (Ya d l).1; omega) om (by simp [cardN])).2
structure Some (d : Db) (l : List Con) (ss : List (List Int)) : Prop where
 few : ss.length <= 16384
 sub : ∀ r ∈ ss, r ∈ subsets d l
theorem Ye (d : Db) (l : List Con) : Some d l (cardL (subsets d l)) := ⟨Ji (Jo _ _) (Ya d l).1, fun r h => (Jh.1 h).1⟩
theorem Y3x {d : Db} {l : List Con} {q : Qry} (h : SmallDb d) (g : q.2.2.length <= 1048576) (f : 1048576 < N) {r : List Int} (i : r ∈ subsets d l) : Z45 N (d.1, d.2) r (q.1, q.2.1, q.2.2) = some (cov d q r) := by
 obtain ⟨a, b, c, e⟩ := Y36 i;have := Y6q (q := q) h a b c e g f;rw [Y3v a b c e] at this;exact this
def found (d : Db) (q : Qry) (ss : List (List Int)) (a : Bool) : List Int × Bool := if queryFor d q then (match ss.find? fun r => cov d q r == a with
  | some r => (r, true)
  | none => ([], false)) else ([], false)
theorem Y28 {a : Type} {p : a -> Bool} {l : List a} {j : Nat} (c : j < l.length) (b : (l.take j).find? p = none) : l.find? p = if p l[j] then some l[j] else (l.drop (j + 1)).find? p := by
 conv => lhs; rw [<- List.take_append_drop j l, List.find?_append, b, Option.none_or, J9 c, List.find?_cons]
 cases d : p l[j] <;> rfl
theorem Y4v {d : Db} {l : List Con} {q : Qry} {ss : List (List Int)} {a : Bool} (t : Some d l ss) (h : SmallDb d) (p : q.2.2.length <= 1048576) (i : 1048576 < N) : Z48 N d q ss a = some (found d q ss a) := by
 have n := t.few;unfold Z48 Z9t;rw [Y1t h p i, J0];have e : Z0x N (d.1, d.2) (q.1, q.2.1, q.2.2) = some (queryFor d q) := Ym h p i;unfold found;cases u : queryFor d q with
 | false =>
  obtain ⟨M, rfl⟩ : ∃ M, N = M + 1 := ⟨N - 1, om⟩;simp only [zS, Z2k, Z4y, e, u];cases decide ((0 : Int) < (ss.length : Int)) <;> rfl
 | true =>
  rw [Jc rfl];exact loop (fun k (s : Nat) => Z2k N k ss a d.1 d.2 q.1 q.2.1 q.2.2 (need d q) (s : Int)) (fun s => s <= ss.length /\ (ss.take s).find? (fun r => cov d q r == a) = none) (fun s => ss.length - s) (fun o => o = some (match ss.find? fun r => cov d q r == a with
  | some r => (r, true)
  | none => ([], false))) (fun k j m => by
   obtain ⟨w, f⟩ := m;simp only [Z2k, Z4y];by_cases b : j < ss.length
   ·have g : (j : Int) < (ss.length : Int) :=om;have v := (Ya d l).2 _ (t.sub _ (J4 b));rw [J2 g, J3, e, J0, u, J3, Y1 b, grd_true, Y4 b, Y5l om i, J0, Y0 (j := j)];cases c : (cov d q ss[j] == a) with
    | true =>
     left;rw [Y28 b f, J3, grd_true, Y3, grd_true];simp [c]
    | false =>
     right;refine ⟨j + 1, ⟨b, ?_⟩, om, by rw [J1]⟩;rw [J5 b, List.find?_append, f];simp [c]
   ·left;have g : ¬ (j : Int) < (ss.length : Int) :=om;rw [Jp om] at f;rw [J7 g, J1, f]) N 0 om ⟨om, sm⟩
theorem Y6v {d : Db} {l : List Con} {q : Qry} {ss : List (List Int)} (u : Some d l ss) (h : SmallDb d) (t : q.2.2.length <= 1048576) (n : 1048576 < N) : Z4s N d ss q = some (found d q ss false) := by
 have p := u.few;unfold Z4s Z0a1;have i : Z0v N (d.1, d.2) (q.1, q.2.1, q.2.2) = some (queryFor d q) := Yq h t n;exact loop (fun k (s : Nat) => Z5z N k d.1 d.2 q.1 q.2.1 q.2.2 ss (ss.length : Int) (s : Int)) (fun s => s <= ss.length /\ (queryFor d q = true -> (ss.take s).find? (fun r => cov d q r == false) = none)) (fun s => ss.length - s) (fun o => o = some (found d q ss false)) (fun k j m => by
  obtain ⟨v, c⟩ := m;simp only [Z5z, Z8n];unfold found;by_cases a : j < ss.length
  ·have g : (j : Int) < (ss.length : Int) :=om;rw [J2 g, J3, Y1 a, grd_true, Y4 a, i, J0, Y0 (j := j)];cases f : queryFor d q with
   | false =>
    right;exact ⟨j + 1, ⟨a, fun e => by cases e⟩, om, rfl⟩
   | true =>
    rw [J3, Y3x h t n (u.sub _ (J4 a)), J0, Jc rfl];cases b : cov d q ss[j] with
    | false =>
     left;rw [Y28 a (c f)];simp [b]
    | true =>
     right;refine ⟨j + 1, ⟨a, fun _ => ?_⟩, om, rfl⟩;rw [J5 a, List.find?_append, c f];simp [b]
  ·left;have g : ¬ (j : Int) < (ss.length : Int) :=om;rw [Jp om] at c;rw [J7 g, J1];cases f : queryFor d q with
   | false => rfl
   | true => rw [Jc rfl, c f]) N 0 om ⟨om, sm⟩
def allHoldIn (d : Db) (q : Qry) (ss : List (List Int)) : Bool := queryFor d q && !(found d q ss false).2
theorem Y6w {d : Db} {l : List Con} {q : Qry} {ss : List (List Int)} (c : Some d l ss) (h : SmallDb d) (b : q.2.2.length <= 1048576) (a : 1048576 < N) : Z4t N d ss q = some (allHoldIn d q ss) := by
 unfold Z4t allHoldIn;rw [Y6v c h b a, J0, Yq h b a, J0];cases queryFor d q <;> rfl
def ones (n : Nat) : List Int := List.replicate n 1
theorem Y29 {d : Db} (a : validDb d = true) : Good1 d (ones d.2.length) := by
 refine Y8t ?_;unfold validWeights weightsIn ones;rw [a, List.length_replicate];simp
theorem Y8u {d : Db} (f : validDb d = true) : Parts d.2.length (sameD d) (blocksOf d) := by
 have j := runs (Y5 f);have e := Y2k f;have k := Y33 f;have a := (Y29 f).blks;refine ⟨fun b a => (Y1w f b a).1, k, ?_, fun x t i => ?_, fun b a x g y h => ?_, ?_, j.symm⟩
 ·have := a.flat;rw [List.pairwise_flatten] at this;exact this.2
 ·have : x ∈ (blocksOf d).flatten := by
   rw [e];unfold toI;exact Je.2 ⟨x.toNat, by rw [Jj]; omega, om⟩
  obtain ⟨b, k1, r⟩ := List.mem_flatten.1 this;exact ⟨b, k1, r⟩
 ·unfold blocksOf at a;rw [Jc f] at a;obtain ⟨c, o, rfl⟩ := Je.1 a;obtain ⟨s, u, rfl⟩ := Je.1 o;unfold toI at g h;obtain ⟨p, l, rfl⟩ := Je.1 g;obtain ⟨q, m, rfl⟩ := Je.1 h;have i := (Jh.1 l).2;have n := (Jh.1 m).2;exact j.trans _ _ _ (j.symm _ _ i) n
 ·unfold blocksOf;rw [Jc f, J11];refine (Y89 j).imp fun i x g y h => ?_;unfold toI at g h;obtain ⟨p, l, rfl⟩ := Je.1 g;obtain ⟨q, m, rfl⟩ := Je.1 h;exact i p l q m
theorem Y2a {d : Db} {l : List Con} {e : Int × Int} : e ∈ edgesOf d l ↔ ∃ a b : Nat, e = ((a : Int), (b : Int)) /\ a < b /\ b < d.2.length /\ edge d l a b = true := by
 unfold edgesOf;rw [J13];constructor
 ·intro ⟨a, g, h⟩;rw [Jj] at g;unfold edgeR at h;obtain ⟨b, i, h⟩ := J13.1 h;rw [List.mem_range'_1] at i;unfold edgeP at h;split at h
  ·rename_i j;rw [J14] at h;exact ⟨a, b, h, om, om, j⟩
  ·simp at h
 ·intro ⟨a, b, c, k, m, f⟩;refine ⟨a, by rw [Jj]; omega, ?_⟩;unfold edgeR;refine J13.2 ⟨b, by rw [List.mem_range'_1]; omega, ?_⟩;unfold edgeP;rw [Jc f, c];simp
theorem Y8n {d : Db} : EdgeS d.2.length (sameD d) (edgesOf d []) := by
 intro i k;rw [Y2a];constructor
 ·intro ⟨a, b, e, f, g, c⟩;simp only [Prod.mk.injEq] at e;obtain ⟨rfl, rfl⟩ := e;unfold edge vany at c;simp only [List.any_nil, J1x] at c;exact ⟨om, om, om, by simpa using c⟩
 ·intro ⟨f, g, c, h⟩;refine ⟨i.toNat, k.toNat, by simp only [Prod.mk.injEq]; omega, om, om, ?_⟩;unfold edge;rw [h, Bool.true_or]
theorem Y4w (d : Db) (l : List Con) : (edgesOf d l).Pairwise fun a b => a.1 < b.1 \/ (a.1 = b.1 /\ a.2 < b.2) := by
 unfold edgesOf;rw [List.pairwise_flatMap];have f : ∀ i k, ∀ e ∈ edgeP d l i k, e = ((i : Int), (k : Int)) := fun i k e c => by
  unfold edgeP at c;split at c
  ·simpa using c
  ·simp at c
 have m : ∀ i, ∀ e ∈ edgeR d l i, e.1 = (i : Int) := fun i e c => by
  unfold edgeR at c;obtain ⟨k, _, c⟩ := J13.1 c;rw [f i k e c]
 refine ⟨fun i hi => ?_, Jz.imp fun {i k} n x h y j => ?_⟩
 ·unfold edgeR;rw [List.pairwise_flatMap];have g : (List.range' (i + 1) (d.2.length - (i + 1))).Pairwise (· < ·) := List.pairwise_lt_range';refine ⟨fun k q => ?_, g.imp fun {k p} o x h y j => ?_⟩
  ·unfold edgeP;split <;> simp
  ·rw [f i k x h, f i p y j];right;exact ⟨rfl, by simp only; omega⟩
 ·left;rw [m i x h, m k y j];omega
theorem Y1h (d : Db) (l : List Con) : validE (edgesOf d l) = true := by
 unfold validE;rw [J6];intro j b;unfold ordE;by_cases c : j = 0
 ·simp [c]
 ·have a : j - 1 < (edgesOf d l).length :=om;have := Jl.1 (Y4w d l) (j - 1) j a b om;simp only [Y2 b, Y2 a];rcases this with h | ⟨h, e⟩
  ·simp [h]
  ·simp [h, e]
theorem Y5y {d : Db} {l : List Con} {s : List Int} (h : indep (edgesOf d l) s = true) : indep (edgesOf d []) s = true := by
 rw [Yh] at h ⊢;intro i k j;refine h i k ?_;obtain ⟨a, b, e, f, g, c⟩ := Y2a.1 j;refine Y2a.2 ⟨a, b, e, f, g, ?_⟩;unfold edge vany at c ⊢;simp only [List.any_nil, J1x] at c;rw [c, Bool.true_or]
theorem Y3y {d : Db} (b : validDb d = true) (k : Nat) : (repN (blocksOf d) k).Pairwise (· < ·) /\ picks (blocksOf d) (repN (blocksOf d) k) := by
 have a := (Y29 b).blks;unfold repN;refine ⟨?_, ?_⟩
 ·rw [List.pairwise_reverse];exact Y35 a.rev.1 a.rev.2
 ·have := Y11 (Y3n k a.rev.1)
  rwa [List.reverse_reverse] at this
theorem Y8a {d : Db} (e : validDb d = true) {r : List Int} : (r.Pairwise (· < ·) /\ picks (blocksOf d) r) ↔ ∃ k, k < sizeP (blocksOf d) /\ repN (blocksOf d) k = r := by
 constructor
 ·intro ⟨_, c⟩;obtain ⟨k, a, b⟩ := Y3o (Y11 c);rw [Y1s] at a;exact ⟨k, a, by unfold repN; rw [b, List.reverse_reverse]⟩
 ·intro ⟨k, a, b⟩;rw [<- b];exact Y3y e k
theorem Y7k {d : Db} (a : validDb d = true) {r : List Int} : r ∈ subsets d [] ↔ ∃ k, k < sizeP (blocksOf d) /\ repN (blocksOf d) k = r := by
 rw [Yy, <- Y8a a, Y5v (Y8u a) Y8n (Y1h d [])];exact ⟨fun h => h.2, fun h => ⟨a, h⟩⟩
theorem Y4x {d : Db} (a : validDb d = true) {r : List Int} (b : r ∈ subsets d []) : r.length = (blocksOf d).length := by
 obtain ⟨k, k1, c⟩ := (Y7k a).1 b;rw [<- c];exact Y3m (Y3y a k).2
theorem Y8b {d : Db} {l : List Con} {r : List Int} (n : r ∈ subsets d l) : r.length <= (blocksOf d).length := by
 obtain ⟨f, m⟩ := Yy.1 n;obtain ⟨_, a, hi⟩ := Yi m;obtain ⟨q, c, g⟩ := Y6o (Y1h d []) (fun y p => by
  obtain ⟨j, k, rfl⟩ := J19 p;exact Yw a k) (Y5y hi)
 have i := Y4x f (Yy.2 ⟨f, c⟩);have o := Yg a;have b := Yg (Yi c).2.1;have e : r = q.filter fun x => decide (x ∈ r) := Y1o o (b.filter _) fun x => by
  simp only [Jh, J6];exact ⟨fun h => ⟨g x h, h⟩, fun h => h.2⟩
 rw [e, <- i];exact Jo _ _
theorem Y2v {d : Db} (l : List Con) (b : validDb d = true) : ∃ r, r ∈ subsets d l := by
 obtain ⟨r, a, _⟩ := Y6o (n := d.2.length) (E := edgesOf d l) (s := []) (Y1h d l) sm (by rw [Yh]; simp);exact ⟨r, Yy.2 ⟨b, a⟩⟩
theorem Y5z {d : Db} {l : List Con} {q : Qry} {ss : List (List Int)} (u : Some d l ss) (h : SmallDb d) (t : q.2.2.length <= 1048576) (n : 1048576 < N) : Z41 N d ss q = some (found d q ss false) := by
 have p := u.few;unfold Z41 Z96;have i : Z0v N (d.1, d.2) (q.1, q.2.1, q.2.2) = some (queryFor d q) := Yq h t n;exact loop (fun k (s : Nat) => Z4u N k ss d.1 d.2 q.1 q.2.1 q.2.2 ss (ss.length : Int) (s : Int)) (fun s => s <= ss.length /\ (queryFor d q = true -> (ss.take s).find? (fun r => cov d q r == false) = none)) (fun s => ss.length - s) (fun o => o = some (found d q ss false)) (fun k j m => by
  obtain ⟨v, c⟩ := m;simp only [Z4u, Z7x];unfold found;by_cases a : j < ss.length
  ·have g : (j : Int) < (ss.length : Int) :=om;rw [J2 g, J3, Y1 a, grd_true, Y4 a, i, J0, Y0 (j := j)];cases f : queryFor d q with
   | false =>
    right;exact ⟨j + 1, ⟨a, fun e => by cases e⟩, om, rfl⟩
   | true =>
    rw [J3, Y3x h t n (u.sub _ (J4 a)), J0, Jc rfl];cases b : cov d q ss[j] with
    | false =>
     left;rw [Y28 a (c f)];simp [b]
    | true =>
     right;refine ⟨j + 1, ⟨a, fun _ => ?_⟩, om, rfl⟩;rw [J5 a, List.find?_append, c f];simp [b]
  ·left;have g : ¬ (j : Int) < (ss.length : Int) :=om;rw [Jp om] at c;rw [J7 g, J1];cases f : queryFor d q with
   | false => rfl
   | true => rw [Jc rfl, c f]) N 0 om ⟨om, sm⟩
theorem Y7l {a : List Int} (f : a.length <= 1048576) (e : 1048576 < N) : Z6a N a a = some true := by
 unfold Z6a Z0au;have c : ((a.length : Int) != (a.length : Int)) = false :=sm;rw [c, J1];have := Y41 (n := a.length) (fun _ => true) (fun k i => Z5j N k a a i) (fun k => by simp [Z5j, Z7i]) (fun k j b => by
  have d : (j : Int) < (a.length : Int) :=om;simp only [zS, Z5j, Z7i, d, Y1 b, Y4 b, bneI, Y0 (j := j), if_true]) (k := N) om
 rw [this];simp
theorem Y60 {a : List (List Int)} (h : a.length <= 1048576) (f : ∀ x ∈ a, x.length <= 1048576) (e : 1048576 < N) : Z6b N a a = some true := by
 unfold Z6b Z0av;have d : ((a.length : Int) != (a.length : Int)) = false :=sm;rw [d, J1];exact Yr (fun K (j : Nat) => Z6w N K a a (j : Int)) (fun j => j <= a.length) (fun j => a.length - j) (fun o => o = some true) (fun K j i g => by
  simp only [Z6w, Z9p];by_cases b : j < a.length
  ·have c : (j : Int) < (a.length : Int) :=om;simp only [zS, c, Y1 b, Y4 b, Y7l (f _ (J4 b)) e];rw [Y0];exact g (j + 1) b om
  ·have c : ¬ (j : Int) < (a.length : Int) :=om;simp only [zS, c]) N 0 om om
theorem Y6x {d : Db} {l : List Con} {q : Qry} (h : SmallDb d) (g : q.2.2.length <= 1048576) (e : 1048576 < N) {r : List Int} (i : r ∈ subsets d l) : Z49 N d r q = some (cov d q r) := by
 obtain ⟨f, c, a, b⟩ := Y36 i;unfold Z49;rw [Y5h h f c a b e, J0];simp only [J3];rw [Y4n (Y24 h a b) g e, J0, Y3v f c a b]
theorem Y37 {d : Db} {q : Qry} {ss : List (List Int)} {a : Bool} (h : (found d q ss a).2 = true) : (found d q ss a).1 ∈ ss /\ cov d q (found d q ss a).1 = a := by
 unfold found at h ⊢;split at h
 ·rename_i c;rw [Jc c];cases b : ss.find? (fun r => cov d q r == a) with
  | none => rw [b] at h; simp at h
  | some r =>
   have := List.find?_some b;exact ⟨List.mem_of_find?_eq_some b, by simpa using this⟩
 ·simp at h
theorem Y38 {d : Db} {l : List Con} {q : Qry} (h : SmallDb d) (c : l.length <= 1048576) (b : q.2.2.length <= 1048576) (a : 1048576 < N) : Z1q N d l q = some (allHoldIn d q (cardL (subsets d l))) := by
 unfold Z1q Z8 allHoldIn;rw [Y1e h c a, J0, Y4v (Ye d l) h b a, J0, J0, Ym h b a, J0];cases queryFor d q <;> rfl
theorem Y39 {d : Db} {l : List Con} {q : Qry} (h : SmallDb d) (b : l.length <= 1048576) (c : q.2.2.length <= 1048576) (a : 1048576 < N) : Z1p N d l q = some (allHoldIn d q (cardL (subsets d l))) := by
 unfold Z1p;rw [Y1f h b a, J0, Y6w (Ye d l) h c a];rfl
theorem Y2b {d : Db} {l : List Con} {q : Qry} (h : SmallDb d) (b : l.length <= 1048576) (c : q.2.2.length <= 1048576) (a : 1048576 < N) : Z8 N d l q = some (found d q (cardL (subsets d l)) false) := by
 unfold Z8;rw [Y1e h b a, J0, Y4v (Ye d l) h c a];rfl
theorem Y2c {d : Db} {l : List Con} {q : Qry} (h : SmallDb d) (b : l.length <= 1048576) (c : q.2.2.length <= 1048576) (a : 1048576 < N) : Z0n N d l q = some (found d q (cardL (subsets d l)) false) := by
 unfold Z0n;rw [Y1f h b a, J0, Y5z (Ye d l) h c a];rfl
theorem Y5m : ∀ (ss : List (List Int)) (a : Int), a <= ss.foldl (fun n s => imax n (s.length : Int)) a /\ (∀ s ∈ ss, (s.length : Int) <= ss.foldl (fun n s => imax n (s.length : Int)) a) /\ (ss.foldl (fun n s => imax n (s.length : Int)) a = a \/ ∃ s ∈ ss, (s.length : Int) = ss.foldl (fun n s => imax n (s.length : Int)) a)
 | [], a => sm
 | s :: ss, a => by
  obtain ⟨j, d, c⟩ := Y5m ss (imax a (s.length : Int));have g : a <= imax a (s.length : Int) /\ (s.length : Int) <= imax a (s.length : Int) /\ (imax a (s.length : Int) = a \/ imax a (s.length : Int) = (s.length : Int)) := by
   unfold imax;split <;> omega
  rw [List.foldl_cons];refine ⟨om, fun t b => ?_, ?_⟩
  ·rcases Jf.1 b with e | b
   ·rw [e]; omega
   ·exact d t b
  ·rcases c with c | ⟨t, h, i⟩
   ·rcases g.2.2 with f | f
    ·left; omega
    ·right; exact ⟨s, sm, om⟩
   ·right; exact ⟨t, by simp [h], i⟩
theorem Y2w {ss : List (List Int)} (h : ss ≠ []) : ∃ s ∈ ss, (s.length : Int) = cardN ss := by
 obtain ⟨d, c, a⟩ := Y5m ss 0;rcases a with a | a
 ·obtain ⟨s, b⟩ := List.exists_mem_of_ne_nil ss h;have := c s b;exact ⟨s, b, by unfold cardN; omega⟩
 ·exact a
def delN (d : Db) (l : List Con) : Int := if validDb d then (d.2.length : Int) - cardN (subsets d l) else 0
theorem Y61 {d : Db} (l : List Con) (b : validDb d = true) : cardL (subsets d l) ≠ [] := by
 obtain ⟨r, a⟩ := Y2v l b;obtain ⟨s, c, f⟩ := Y2w (ss := subsets d l) (fun e => by rw [e] at a; simp at a);intro e;have : s ∈ cardL (subsets d l) := Jh.2 ⟨c, by simpa using f⟩;rw [e] at this;simp at this
theorem Y4y {d : Db} (l : List Con) (b : validDb d = true) : 0 <= cardN (subsets d l) /\ cardN (subsets d l) <= ((blocksOf d).length : Int) := by
 obtain ⟨r, a⟩ := Y2v l b;obtain ⟨s, c, f⟩ := Y2w (ss := subsets d l) (fun e => by rw [e] at a; simp at a);have := Y8b c;omega
theorem Y62 {d : Db} (b : validDb d = true) : cardN (subsets d []) = ((blocksOf d).length : Int) := by
 obtain ⟨r, a⟩ := Y2v [] b;obtain ⟨s, c, f⟩ := Y2w (ss := subsets d []) (fun e => by rw [e] at a; simp at a);rw [<- f, Y4x b c]
theorem Y3a {d : Db} (a : validDb d = true) : (blocksOf d).length <= 14 := (Y29 a).blks.len
theorem Y3z {d : Db} {l : List Con} {s : List Int} (h : s ∈ cardL (subsets d l)) : (s.length : Int) = cardN (subsets d l) := by simpa using (Jh.1 h).2
theorem Y7q {d : Db} {l : List Con} : (bif ((cardL (subsets d l)).length : Int) == 0 then some 0 else grd (inb 0 (cardL (subsets d l))) (some (w64 ((d.2.length : Int) - ((at_ [] (cardL (subsets d l)) 0).length : Int))))) = some (delN d l) := by
 unfold delN;cases a : validDb d with
 | false =>
  have : subsets d l = [] := by unfold subsets; rw [a]; rfl
  rw [this];rfl
 | true =>
  have b := Y61 l a;have i := Y4y l a;have j := (Y5 a).few;have k := Y3a a;cases c : cardL (subsets d l) with
  | nil => exact absurd c b
  | cons s ss =>
   have h := Y3z (d := d) (l := l) (s := s) (by rw [c]; simp);have e : (((s :: ss).length : Int) == 0) = false := by simp; omega
   have f : inb 0 (s :: ss) = true := by simp [inb] <;> omega
   have g : at_ [] (s :: ss) 0 = s := rfl;rw [e, J1, f, grd_true, g, h, Y6, Jc rfl]
theorem Y8c {d : Db} {l : List Con} (h : SmallDb d) (b : l.length <= 1048576) (a : 1048576 < N) : Z2g N d l = some (delN d l) := by
 unfold Z2g;rw [Y1e h b a, J0];exact Y7q
theorem Y5n {d : Db} {l : List Con} (h : SmallDb d) (b : l.length <= 1048576) (a : 1048576 < N) : Z18 N d l = some (delN d l) := by
 unfold Z18;rw [Y1f h b a, J0];exact Y7q
theorem Y57 {d : Db} {l : List Con} (f : validDb d = true) (h : 1048576 < N) : Z12 N (d.2.length : Int) (edgesOf d l) = some (cardN (subsets d l)) := by
 have b := (Ya d l).1;unfold Z12 Z50;have e : maxSets d.2.length (edgesOf d l) = subsets d l := by unfold subsets; rw [Jc f]
 rw [Y4h (Y2r (Y5 f)) h, J0, e];have := Yr (fun K (j : Nat) => Z25 N K (cardN ((subsets d l).take j)) (subsets d l) (j : Int)) (fun j => j <= (subsets d l).length) (fun j => (subsets d l).length - j) (fun o => o = some (cardN (subsets d l))) (fun K j k i => by
  simp only [Z25, Z4h];by_cases a : j < (subsets d l).length
  ·have c : (j : Int) < ((subsets d l).length : Int) :=om;have g : imax (cardN ((subsets d l).take j)) (((subsets d l)[j]).length : Int) = cardN ((subsets d l).take (j + 1)) := by
    unfold cardN;rw [J5 a, List.foldl_append];rfl
   simp only [zS, c, Y1 a, Y4 a];rw [Y0, g];exact i (j + 1) a om
  ·have c : ¬ (j : Int) < ((subsets d l).length : Int) :=om;simp only [zS, c];rw [Jp om]) N 0 om om
 exact this
theorem Y7m {d : Db} {l : List Con} {q : Qry} {is_ a : Bool} {r : List Int} (h : SmallDb d) (y : l.length <= 1048576) (z : q.2.2.length <= 1048576) (e : validDb d = true) (g : 1048576 < N)
  (u : is_ = allHoldIn d q (cardL (subsets d l))) (I : r = (found d q (cardL (subsets d l)) false).1) (k : a = (found d q (cardL (subsets d l)) false).2) :
  laws_FnCardinalityRepairs_l0 N N d.1 d.2 l q.1 q.2.1 q.2.2 (cardL (subsets d l)) is_ r a (delN d l) 0 = some true := by
 have x := (Ye d l).few;have L := Y4y l e;have M := (Y5 e).few;have O := Y3a e;have i : delN d l = (d.2.length : Int) - cardN (subsets d l) := by unfold delN; rw [Jc e]
 have f : delN d [] = (d.2.length : Int) - ((blocksOf d).length : Int) := by unfold delN; rw [Jc e, Y62 e]
 have H : ([] : List Con).length <= 1048576 :=sm;exact Yr (fun K (j : Nat) => laws_FnCardinalityRepairs_l0 N K d.1 d.2 l q.1 q.2.1 q.2.2 (cardL (subsets d l)) is_ r a (delN d l) (j : Int)) (fun j => j <= (cardL (subsets d l)).length) (fun j => (cardL (subsets d l)).length - j) (fun o => o = some true) (fun K j P J => by
  simp only [laws_FnCardinalityRepairs_l0, laws_FnCardinalityRepairs_l0_b];by_cases p : j < (cardL (subsets d l)).length
  ·have c : (j : Int) < ((cardL (subsets d l)).length : Int) :=om;have s : (((cardL (subsets d l))[j].length : Int) != w64 ((d.2.length : Int) - delN d l)) = false := by
    have := Y3z (J4 p);rw [Y6, this];simp; omega
   simp only [zS, c, Y1 p, Y4 p, s];rw [Y0];exact J (j + 1) p om
  ·have c : ¬ (j : Int) < ((cardL (subsets d l)).length : Int) :=om;have C : Z18 N (d.1, d.2) [] = some (delN d []) := Y5n h H g;have D : Z1g N (d.1, d.2) l = some (edgesOf d l) := by
    have := Y3k (N := N) (l := l) h y g;rw [e, Jc rfl] at this;exact this
   have E : Z4n N (d.1, d.2) = some (blocksOf d) := Y32 h g;have F : Z2l N (d.1, d.2) l (q.1, q.2.1, q.2.2) = some (allHold d l q) := Y56 h y z g;have s : (delN d l == w64 ((d.2.length : Int) - cardN (subsets d l))) = true := by
    rw [Y6, i]; simp
   have A : (delN d [] == w64 ((d.2.length : Int) - ((blocksOf d).length : Int))) = true := by
    rw [Y6, f]; simp
   have B : decide (delN d [] <= delN d l) = true := by
    rw [J6]; omega
   simp only [zS, c, C, D, Y57 e g, s, E, A, B, F];have b : (bif (!a) then some true else (Z49 N (d.1, d.2) r (q.1, q.2.1, q.2.2)).bind fun w => some (!w)) = some true := by
    cases v : a with
    | false => rfl
    | true =>
     rw [v] at k;obtain ⟨k1, m⟩ := Y37 k.symm;rw [<- I] at k1 m;have := Y6x (N := N) (q := q) h z g ((Ye d l).sub r k1);have G : Z49 N (d.1, d.2) r (q.1, q.2.1, q.2.2) = some (cov d q r) := this;rw [Ja, J1, G, J0, m];rfl
   cases n : allHold d l q with
   | false => exact b
   | true =>
    have : is_ = true := by
     unfold allHold at n;simp only [J8, Jg] at n;rw [u];unfold allHoldIn;rw [n.1, Jb, J1o];cases t : (found d q (cardL (subsets d l)) false).2 with
     | false => rfl
     | true =>
      obtain ⟨k1, m⟩ := Y37 t;rw [n.2 _ ((Ye d l).sub _ k1)] at m;cases m
    rw [this];exact b) N 0 om om
theorem law_FnCardinalityRepairs (c : 1048576 < N) {code : List Int} : laws_FnCardinalityRepairs N code = some true := by
 unfold laws_FnCardinalityRepairs laws_FnCardinalityRepairs_b Z0b0;rw [J0];by_cases h : (code.length : Int) > 1048576
 ·rw [J2 h]; rfl
 rw [J7 h, J1];obtain ⟨d, l, q, j, m, o, p⟩ := Y5r (N := N) (code := code) om c;have a := m.small om;have b : l.length <= 1048576 :=om;have e : q.2.2.length <= 1048576 :=om;have i := (Ye d l).few;have f : ∀ x ∈ cardL (subsets d l), x.length <= 1048576 := fun x n => Ji ((Ya d l).2 x ((Ye d l).sub x n)) om;unfold Z1l;simp only [zS, j, Y1f a b c, Y39 a b e c, Y2c a b e c, Y2b a b e c, Y5n a b c, Y1e a b c, Y60 (show (cardL (subsets d l)).length <= 1048576 by omega) f c, Y38 a b e c, beq_self_eq_true, Y8c a b c, bneI, Yf a c];cases g : validDb d with
 | false =>
  have k : subsets d l = [] := by unfold subsets; rw [g]; rfl
  have f2 : delN d l = 0 := by unfold delN; rw [g]; rfl
  rw [k, f2];rfl
 | true =>
  rw [Ja, J1];exact Y7m a b e g c rfl rfl rfl
end Go.PL
