/- The plain law of the functions read plainly. Conditions: those that stand in each theorem. -/
import Derived.Test.YtdnmcmhnikjphaaGreatPlA
import Derived.KernelRfl

set_option linter.unusedVariables false
set_option linter.unusedSimpArgs false
set_option linter.unnecessarySimpa false

namespace Go.PL
theorem om {p : Prop} (h : p := by omega) : p := h
theorem sm {p : Prop} (h : p := by simp) : p := h
theorem gr {p : Prop} (h : p := by grind) : p := h
abbrev J0 := @Option.bind_some
abbrev J1 := @cond_false
abbrev J2 := @decide_eq_true
abbrev J3 := @decide_eq_true_eq
abbrev J4 := @List.getElem_mem
abbrev J5 := @cond_true
abbrev J6 := @List.take_succ_eq_append_getElem
abbrev J7 := @decide_eq_false
abbrev J8 := @List.mem_map
abbrev J9 := @Bool.not_true
abbrev Ja := @List.drop_eq_getElem_cons
abbrev Jb := @List.length_map
abbrev Jc := @Bool.true_and
abbrev Jd := @Bool.and_eq_true
abbrev Je := @if_pos
abbrev Jf := @List.mem_range
abbrev Jg := @List.mem_iff_getElem
abbrev Jh := @Nat.le_trans
abbrev Ji := @Int.toNat_natCast
abbrev Jj := @List.mem_filter
abbrev Jk := @List.map_append
abbrev Jl := @List.length_filter_le
abbrev Jm := @List.append_nil
abbrev Jn := @if_neg
abbrev Jo := @List.pairwise_iff_getElem
abbrev Jp := @List.all_eq_true
abbrev Jq := @List.length_pos_iff
abbrev Jr := @Int.lt_irrefl
abbrev Js := @List.length_range
abbrev Jt := @Nat.pow_le_pow_right
abbrev Ju := @Bool.eq_iff_iff
abbrev Jv := @List.mem_cons
abbrev Jw := @Bool.and_false
abbrev Jx := @Nat.le_refl
abbrev Jy := @List.length_cons
abbrev Jz := @List.take_length
abbrev J10 := @List.mem_reverse
abbrev J11 := @List.pairwise_map
abbrev J12 := @List.drop_of_length_le
abbrev J13 := @List.length_append
abbrev J14 := @List.length_replicate
abbrev J15 := @List.getElem?_eq_getElem
abbrev J16 := @List.range_succ
abbrev J17 := @List.append_assoc
abbrev J18 := @List.any_eq_true
abbrev J19 := @List.length_take
abbrev J1a := @List.pairwise_cons
abbrev J1b := @Bool.false_or
abbrev J1c := @Bool.eq_false_iff
abbrev J1d := @List.reverse_cons
abbrev J1e := @Decidable.byContradiction
abbrev J1f := @List.mem_of_mem_drop
abbrev J1g := @Nat.mod_lt
abbrev J1h := @Int.le_refl
abbrev J1i := @Bool.not_false
abbrev J1j := @Bool.false_and
abbrev J1k := @List.map_congr_left
abbrev J1l := @decide_eq_false_iff_not
abbrev J1m := @List.filter_append
abbrev J1n := @List.foldl_cons
abbrev J1o := @List.pairwise_lt_range
abbrev J1p := @List.take_of_length_le
abbrev J1q := @List.flatten_cons
abbrev J1r := @List.singleton_append
abbrev J1s := @Nat.pow_succ
abbrev J1t := @Int.mul_comm
abbrev J1u := @List.cons_append
abbrev J1v := @List.drop_length
abbrev J1w := @List.flatten_append
abbrev J1x := @List.nil_append
abbrev J1y := @Option.some.inj
abbrev J1z := @List.length_eq_zero_iff
abbrev J20 := @Option.some.injEq
abbrev J21 := @Bool.not_eq_true'
abbrev J22 := @List.getElem_take
abbrev J23 := @List.filter_eq_nil_iff
abbrev J24 := @List.map_cons
abbrev J25 := @List.length_filter_eq_length_iff
abbrev J26 := @List.length_singleton
abbrev J27 := @List.pairwise_reverse
abbrev J28 := @List.Pairwise.filter
abbrev J29 := @List.mem_append
abbrev J2a := @Int.natCast_mul
abbrev J2b := @List.length_set
abbrev J2c := @Nat.mul_le_mul_right
abbrev J2d := @List.mem_cons_self
abbrev J2e := @List.sum_cons
abbrev J2f := @List.flatMap_cons
abbrev J2g := @List.any_eq_false
abbrev J2h := @List.mem_flatten
abbrev J2i := @Bool.or_eq_true
variable {N : Nat}
theorem Y5 {x : Int} (a : -9223372036854775808 <= x := by omega) (b : x <= 9223372036854775807 := by omega) : w64 x = x := by
 unfold w64 IntKind.wrap;simp [IntKind.bits, IntKind.signed];omega
theorem Y0 {j : Nat} (h : j < 4611686018427387904 := by omega) : w64 ((j : Int) + 1) = ((j + 1 : Nat) : Int) := by
 rw [Y5]; omega
@[simp] theorem grd_true {a : Type} (x : Option a) : grd true x = x := rfl
@[simp] theorem grd_false {a : Type} (x : Option a) : grd false x = none := rfl
theorem Yc {a : Type} {b : Int} (h : b ≠ 0) (x : Option a) : grz b x = x := by simp [grz, h]
@[simp] theorem letv_eq {a b : Type} (v : a) (k : a -> b) : letv v k = k v := rfl
theorem zS : (∀ (a : Type) (x y : a), cond true x y = x) /\ (∀ (a : Type) (x y : a), cond false x y = y) /\ (∀ (a : Type) (x : Option a), grd true x = x) /\ (∀ h : Decidable True, @decide True h = true) /\ (∀ h : Decidable False, @decide False h = false) /\ (∀ (a b : Type) (x : a) (f : a -> Option b), (some x).bind f = f x) /\ ((!true) = false) /\ ((!false) = true) := ⟨fun _ _ _ => rfl, fun _ _ _ => rfl, fun _ _ => rfl, fun h => by simp, fun h => by simp, fun _ _ _ _ => rfl, rfl, rfl⟩
theorem Y9g {a : Type} (j : Nat) (xs : List a) : inb (j : Int) xs = decide (j < xs.length) := by
 simp [inb]
theorem Y1 {a : Type} {j : Nat} {xs : List a} (h : j < xs.length) : inb (j : Int) xs = true := by simp [Y9g, h]
theorem Y3 {a : Type} {d : a} {j : Nat} {xs : List a} (h : j < xs.length) : at_ d xs (j : Int) = xs[j] := by simp [at_, h]
theorem Y7d {n : Nat} {b : Nat} (h : n * b <= 140737488355328) : makeOk (n : Int) b = true := by
 have a : (n : Int) * (b : Int) <= 140737488355328 :=gr;have c : (0 : Int) <= n :=om;simp [makeOk, a, c]
theorem bneI (a b : Int) : (a != b) = !decide (a = b) :=gr
theorem beqI (a b : Int) : (a == b) = decide (a = b) :=gr
theorem Y6e {p : Prop} [Decidable p] {a : Type} (x y : Option a) : (bif !decide p then x else y) = if decide p then y else x := by by_cases h : p <;> simp [h]
theorem loop {d R : Type} (f : Nat -> d -> Option R) (I : d -> Prop) (c : d -> Nat) (Q : Option R -> Prop) (a : ∀ k s, I s -> Q (f (k + 1) s) \/ ∃ b, I b /\ c b < c s /\ f (k + 1) s = f k b) : ∀ (k : Nat) (s : d), c s < k -> I s -> Q (f k s)
 | 0, s, hk, hs => om
 | k + 1, s, hk, hs => by
  rcases a k s hs with h | ⟨b, e, i, g⟩
  ·exact h
  ·rw [g];exact loop f I c Q a k b om e
theorem Yal {n : Nat} (p : Nat -> Bool) (f : Nat -> Int -> Option Bool) (b : ∀ k, f (k + 1) (n : Int) = some true) (a : ∀ k j, j < n -> f (k + 1) (j : Int) = if p j then f k ((j + 1 : Nat) : Int) else some false) {k : Nat} (e : n < k) : f k 0 = some (decide (∀ j, j < n -> p j = true)) := by
 have := loop (fun k (j : Nat) => f k (j : Int)) (fun j => j <= n /\ ∀ i, i < j -> p i = true) (fun j => n - j) (fun o => o = some (decide (∀ j, j < n -> p j = true))) (fun k j l => by
  obtain ⟨m, c⟩ := l;by_cases d : j < n
  ·rw [a k j d];cases g : p j with
   | true =>
    right;exact ⟨j + 1, ⟨d, fun i hi => by rcases Nat.lt_or_eq_of_le (Nat.le_of_lt_succ hi) with h | h; exact c i h; rw [h]; exact g⟩, om, sm⟩
   | false =>
    left;have : ¬ ∀ j, j < n -> p j = true := fun h => gr;simp [this]
  ·left;have : j = n :=om;subst this;rw [b];symm;simpa using c) k 0 (by simpa using e) ⟨om, om⟩
 exact this
theorem Yf {R : Type} {n : Nat} (p : Nat -> Bool) (c e : Option R) (f : Nat -> Int -> Option R) (b : ∀ k, f (k + 1) (n : Int) = e) (a : ∀ k j, j < n -> f (k + 1) (j : Int) = if p j then f k ((j + 1 : Nat) : Int) else c) {k : Nat} (l : n < k) : f k 0 = if ∀ j, j < n -> p j = true then e else c := by
 have := loop (fun k (j : Nat) => f k (j : Int)) (fun j => j <= n /\ ∀ i, i < j -> p i = true) (fun j => n - j) (fun o => o = if ∀ j, j < n -> p j = true then e else c) (fun k j q => by
  obtain ⟨r, d⟩ := q;by_cases g : j < n
  ·rw [a k j g];cases m : p j with
   | true =>
    right;exact ⟨j + 1, ⟨g, fun i hi => by rcases Nat.lt_or_eq_of_le (Nat.le_of_lt_succ hi) with h | h; exact d i h; rw [h]; exact m⟩, om, sm⟩
   | false =>
    left;have : ¬ ∀ j, j < n -> p j = true := fun h => by simp_all
    simp [this]
  ·left;have : j = n :=om;subst this;rw [b, Je d]) k 0 (by simpa using l) ⟨om, om⟩
 exact this
theorem first {n : Nat} (p : Nat -> Bool) (f : Nat -> Int -> Option Int) (b : ∀ k, f (k + 1) (n : Int) = some (-1)) (a : ∀ k j, j < n -> f (k + 1) (j : Int) = if p j then some (j : Int) else f k ((j + 1 : Nat) : Int)) {k : Nat} (e : n < k) :
  (∃ j, j < n /\ p j = true /\ (∀ i, i < j -> p i = false) /\ f k 0 = some (j : Int)) \/ ((∀ i, i < n -> p i = false) /\ f k 0 = some (-1)) := by
 have := loop (fun k (j : Nat) => f k (j : Int)) (fun j => j <= n /\ ∀ i, i < j -> p i = false) (fun j => n - j) (fun o => (∃ j, j < n /\ p j = true /\ (∀ i, i < j -> p i = false) /\ o = some (j : Int)) \/ ((∀ i, i < n -> p i = false) /\ o = some (-1))) (fun k j l => by
  obtain ⟨m, d⟩ := l;by_cases c : j < n
  ·rw [a k j c];cases g : p j with
   | true => grind
   | false =>
    right;exact ⟨j + 1, ⟨c, fun i hi => by rcases Nat.lt_or_eq_of_le (Nat.le_of_lt_succ hi) with h | h; exact d i h; rw [h]; exact g⟩, om, sm⟩
  ·grind) k 0 (by simpa using e) ⟨om, om⟩
 exact this
theorem Yd {j : Nat} (h : 0 < j) (a : j < 4611686018427387904) : w64 ((j : Int) - 1) = ((j - 1 : Nat) : Int) := by
 rw [Y5]; omega
theorem Y8 {b : Type} {i : Int} {xs : List b} (a : 0 <= i) (h : i < xs.length) : inb i xs = true := by simp [inb, a, h]
theorem Ym {a : Type} {d : a} {i : Int} {xs : List a} (b : 0 <= i) (h : i < xs.length) : at_ d xs i = xs[i.toNat]' om := by
 unfold at_;rw [List.getD_eq_getElem?_getD, J15 om];rfl
abbrev Rel := ByteArray × Int × Int
abbrev Fact := Int × List Int
abbrev Db := List Rel × List Fact
structure SmallDb (d : Db) : Prop where
 rels : d.1.length <= 1048576
 facts : d.2.length <= 1048576
 vals : ∀ f ∈ d.2, f.2.length <= 1048576
theorem Y64 {c : Type} [DecidableEq c] {a b : List c} (h : a.length = b.length) : (a = b) ↔ ∀ j, j < a.length -> (decide (a[j]? = b[j]?)) = true := by
 constructor
 ·grind
 ·intro d;apply List.ext_getElem? ;intro j;by_cases e : j < a.length
  ·grind
  ·grind
theorem l1In (N : Nat) (x a b : Int) : Z0j N x a b = some (decide (a <= x /\ x <= b)) := by
 unfold Z0j;by_cases h : a <= x <;> simp [h]
theorem Yr (N : Nat) (x a b : Int) : Z0l N x a b = some (decide (a <= x /\ x <= b)) := by
 unfold Z0l;by_cases h : a <= x <;> simp [h]
def validRel (r : Rel) : Bool := (Z8 0 r).getD false
theorem Y44 (N : Nat) (r : Rel) : Z8 N r = some (validRel r) := by
 have c : ∃ b, Z8 0 r = some b := by
  unfold Z8;by_cases h : r.1.size = 1
  ·have a : ∃ b, byteAt r.1 0 = some b := by
    unfold byteAt;have : (0 : Int).toNat < r.1.size :=om;exact ⟨r.1[(0 : Int).toNat], by rw [Je om, getElem?_pos]⟩
   obtain ⟨b, a⟩ := a;rw [a];simp only [J0, l1In];cases ((r.1.size : Int) == 1) with
   | false => exact ⟨_, rfl⟩
   | true =>
    cases decide ((b.toNat : Int) >= 97) with
    | false => exact ⟨_, rfl⟩
    | true =>
     cases decide ((b.toNat : Int) <= 122) with
     | false => exact ⟨_, rfl⟩
     | true =>
      cases decide (1 <= r.2.1 /\ r.2.1 <= 3) with
      | false => exact ⟨_, rfl⟩
      | true => exact ⟨_, rfl⟩
  ·have d : ((r.1.size : Int) == 1) = false := by rw [beqI]; simp; omega
   rw [d]; exact ⟨false, rfl⟩
 obtain ⟨b, a⟩ := c;have e : Z8 N r = Z8 0 r := by
  unfold Z8; simp [l1In]
 rw [e, validRel, a]; rfl
theorem Y9h (N : Nat) (r : Rel) : Z2n N r = some (validRel r) := by
 rw [<- Y44 N r];unfold Z2n Z8;simp [l1In, Yr]
def validRels (l : List Rel) : Bool := decide ((∀ j, j < l.length -> (validRel (l.getD j (⟨#[]⟩, 0, 0)) && (decide (j = 0) || slt (l.getD (j - 1) (⟨#[]⟩, 0, 0)).1 (l.getD j (⟨#[]⟩, 0, 0)).1)) = true) /\ l.length <= 4)
theorem Y2 {a : Type} {d : a} {j : Nat} {xs : List a} (h : j < xs.length) : xs.getD j d = xs[j] := by simp [h]
theorem Y20 {l : List Rel} (g : l.length <= 1048576) (f : 1048576 < N) : Z0f N l = some (validRels l) := by
 unfold Z0f Z4h;rw [Yf (n := l.length) (fun j => validRel (l.getD j (⟨#[]⟩, 0, 0)) && (decide (j = 0) || slt (l.getD (j - 1) (⟨#[]⟩, 0, 0)).1 (l.getD j (⟨#[]⟩, 0, 0)).1)) (some false) (some (decide (l.length <= 4))) (fun k i => Z0o N k l i)
  (fun k => by simp [Z0o, Z1l]; omega) (fun k j b => ?_) om]
 ·unfold validRels;by_cases h : ∀ j, j < l.length -> (validRel (l.getD j (⟨#[]⟩, 0, 0)) && (decide (j = 0) || slt (l.getD (j - 1) (⟨#[]⟩, 0, 0)).1 (l.getD j (⟨#[]⟩, 0, 0)).1)) = true
  ·grind
  ·grind
 ·have d : (j : Int) < (l.length : Int) :=om;simp only [zS, Z0o, Z1l, d, Y1 b, Y3 b, Y44, Y2 b, Y0 (j := j)];cases validRel l[j] with
  | false => rfl
  | true =>
   simp only [zS, Jc];by_cases c : j = 0
   ·subst c; simp
   ·have e : (j : Int) > 0 :=om;have a : j - 1 < l.length :=om;simp only [zS, e, Yd (show 0 < j by omega) om, Y1 a, Y3 a, c, J1b, Y2 a];cases slt l[j - 1].1 l[j].1 <;> rfl
theorem Y50 {l : List Rel} (g : l.length <= 1048576) (f : 1048576 < N) : Z10 N l = some (validRels l) := by
 rw [<- Y20 g f];unfold Z10 Z6s Z0f Z4h;rw [Yf (n := l.length) (fun j => validRel (l.getD j (⟨#[]⟩, 0, 0)) && (decide (j = 0) || slt (l.getD (j - 1) (⟨#[]⟩, 0, 0)).1 (l.getD j (⟨#[]⟩, 0, 0)).1)) (some false) (some (decide (l.length <= 4))) (fun k i => Z0o N k l i)
  (fun k => by simp [Z0o, Z1l]; omega) (fun k j b => ?_) om,
  Yf (n := l.length) (fun j => validRel (l.getD j (⟨#[]⟩, 0, 0)) && (decide (j = 0) || slt (l.getD (j - 1) (⟨#[]⟩, 0, 0)).1 (l.getD j (⟨#[]⟩, 0, 0)).1)) (some false) (some (decide (l.length <= 4))) (fun k i => Z1w N k l l (l.length : Int) i)
  (fun k => by simp [Z1w, Z3r]; omega) (fun k j b => ?_) om]
 ·have d : (j : Int) < (l.length : Int) :=om;simp only [zS, Z1w, Z3r, d, Y1 b, Y3 b, Y9h, Y2 b, Y0 (j := j)];cases validRel l[j] with
  | false => rfl
  | true =>
   simp only [zS, Jc];by_cases c : j = 0
   ·subst c; simp
   ·have e : (j : Int) > 0 :=om;have a : j - 1 < l.length :=om;simp only [zS, e, Yd (show 0 < j by omega) om, Y1 a, Y3 a, c, J1b, Y2 a];cases slt l[j - 1].1 l[j].1 <;> rfl
 ·have d : (j : Int) < (l.length : Int) :=om;simp only [zS, Z0o, Z1l, d, Y1 b, Y3 b, Y44, Y2 b, Y0 (j := j)];cases validRel l[j] with
  | false => rfl
  | true =>
   simp only [zS, Jc];by_cases c : j = 0
   ·subst c; simp
   ·have e : (j : Int) > 0 :=om;have a : j - 1 < l.length :=om;simp only [zS, e, Yd (show 0 < j by omega) om, Y1 a, Y3 a, c, J1b, Y2 a];cases slt l[j - 1].1 l[j].1 <;> rfl
def validVals (xs : List Int) : Bool := xs.all fun x => decide (0 <= x /\ x <= 9)
theorem Y2x {a : Type} {d : a} {xs : List a} {p : a -> Bool} : (∀ j, j < xs.length -> p (xs.getD j d) = true) ↔ xs.all p = true := by
 rw [Jp];constructor
 ·intro h x b;obtain ⟨i, hi, rfl⟩ := Jg.1 b;have := h i hi
  rwa [Y2 hi] at this
 ·grind
def fact1 (l : List Rel) (f : Fact) : Bool := decide (0 <= f.1 /\ f.1 <= (l.length : Int) - 1) && (decide ((f.2.length : Int) = (l.getD f.1.toNat (⟨#[]⟩, 0, 0)).2.1) && validVals f.2)
theorem Y1h {l : List Rel} {f : Fact} (s : l.length <= 1048576) (q : f.2.length <= 1048576) (o : 1048576 < N) : Z0r N l f = some (validRels l && fact1 l f) := by
 obtain ⟨r, v⟩ := f;unfold Z0r Z9c;rw [Y20 s o, J0];cases validRels l with
 | false => rfl
 | true =>
  simp only [zS, l1In, Jc, fact1];rw [Y5];by_cases h : 0 <= r /\ r <= (l.length : Int) - 1
  ·have e : r.toNat < l.length :=om;simp only [zS, h, and_self, Y8 h.1 (show r < l.length by omega), Ym h.1 (show r < l.length by omega), bneI, Y2 e, Jc];by_cases g : (v.length : Int) = l[r.toNat].2.1
   ·simp only [zS, g, Jc];rw [Yf (n := v.length) (fun j => decide (0 <= v.getD j 0 /\ v.getD j 0 <= 9)) (some false) (some true) (fun k i => Z3t N k r v i) (fun k => by simp [Z3t, Z5q]) (fun k j b => ?_) gr]
    ·unfold validVals;by_cases a : ∀ j, j < v.length -> decide (0 <= v.getD j 0 /\ v.getD j 0 <= 9) = true
     ·rw [Je a, (Y2x (d := (0 : Int)) (p := fun x => decide (0 <= x /\ x <= 9))).1 a]
     ·rw [Jn a];congr 1; symm;rw [J1c];exact fun m => a ((Y2x (d := (0 : Int)) (p := fun x => decide (0 <= x /\ x <= 9))).2 m)
    ·have c : (j : Int) < (v.length : Int) :=om;simp only at q;simp only [zS, Z3t, Z5q, c, Y1 b, Y3 b, l1In, Y2 b, Y0 (j := j), Y6e]
   ·grind
  ·grind
def cmpInts : List Int -> List Int -> Int
 | [], [] => 0
 | [], _ :: _ => -1
 | _ :: _, [] => 1
 | a :: x, b :: y => if a < b then -1 else if a > b then 1 else cmpInts x y
theorem Y3p : ∀ (a b : List Int), cmpInts a b = 0 ↔ a = b
 | [], [] => by simp [cmpInts]
 | [], _ :: _ => by simp [cmpInts]
 | _ :: _, [] => by simp [cmpInts]
 | a :: x, b :: y => by
  simp [cmpInts];split
  ·grind
  ·split
   ·grind
   ·rw [Y3p x y];constructor
    ·grind
    ·grind
theorem Y51 {a b : List Int} (t : a.length <= 1048576) (u : b.length <= 1048576) (s : 1048576 < N) : Z6l N a b = some (cmpInts a b) := by
 have := loop (fun k (j : Nat) => Z4x N k a b (j : Int)) (fun j => j <= a.length /\ j <= b.length /\ cmpInts (a.drop j) (b.drop j) = cmpInts a b) (fun j => a.length - j) (fun o => o = some (cmpInts a b)) (fun k j p => by
  obtain ⟨q, r, c⟩ := p;by_cases g : j < a.length
  ·by_cases e : j < b.length
   ·have f : (j : Int) < (a.length : Int) :=om;have d : (j : Int) < (b.length : Int) :=om;simp only [zS, Z4x, Z6p, f, d, Y1 g, Y1 e, Y3 g, Y3 e, Y0 (j := j)];rw [Ja g, Ja e] at c;simp [cmpInts] at c;by_cases i : a[j] < b[j]
    ·grind
    ·grind
   ·left;have f : (j : Int) < (a.length : Int) :=om;have d : ¬ (j : Int) < (b.length : Int) :=om;have h : ¬ (a.length : Int) < (b.length : Int) :=om;have m : (a.length : Int) > (b.length : Int) :=om;simp [Z4x, Z6p, f, d, h, m, J5, J1];rw [Ja g, J12 (l := b) om] at c;rw [<- c]; rfl
  ·left;have n : j = a.length :=om;have f : ¬ (j : Int) < (a.length : Int) :=om;simp only [zS, Z4x, Z6p, f];rw [J12 (l := a) om] at c;by_cases i : a.length < b.length
   ·have d : (a.length : Int) < (b.length : Int) :=om;simp only [zS, d];rw [Ja om] at c;rw [<- c]; rfl
   ·have d : ¬ (a.length : Int) < (b.length : Int) :=om;have h : ¬ (a.length : Int) > (b.length : Int) :=om;simp only [zS, d, h];rw [J12 om] at c;rw [<- c]; rfl) N 0 om ⟨om, om, rfl⟩
 exact this
theorem Y8h {a b : List Int} (s : a.length <= 1048576) (t : b.length <= 1048576) (r : 1048576 < N) : Z2b N a b = some (cmpInts a b) := by
 have p : ∀ x y : Int, Z4i N x y = some (if x < y then -1 else if x > y then 1 else 0) := by
  intro x y;simp [Z4i, Z5y, J1];by_cases i : x < y
  ·simp [i]
  ·by_cases n : x > y <;> simp [i, n]
 have := loop (fun k (j : Nat) => Z17 N k a b a (a.length : Int) (j : Int)) (fun j => j <= a.length /\ j <= b.length /\ cmpInts (a.drop j) (b.drop j) = cmpInts a b) (fun j => a.length - j) (fun o => o = some (cmpInts a b)) (fun k j q => by
  obtain ⟨i, n, c⟩ := q;by_cases g : j < a.length
  ·have h : (j : Int) < (a.length : Int) :=om;by_cases e : j < b.length
   ·have d : ¬ (j : Int) >= (b.length : Int) :=om;simp only [zS, Z17, Z20, h, d, Y1 g, Y1 e, Y3 g, Y3 e, Y0 (j := j), p];rw [Ja g, Ja e] at c;simp [cmpInts] at c;by_cases f : a[j] < b[j]
    ·left; simp only [f, if_true] at c ⊢; rw [<- c]; rfl
    ·by_cases m : a[j] > b[j]
     ·left; simp only [f, m, if_true, if_false] at c ⊢; rw [<- c]; rfl
     ·grind
   ·left;have d : (j : Int) >= (b.length : Int) :=om;simp only [zS, Z17, Z20, h, d, Y1 g];rw [Ja g, J12 (l := b) om] at c;rw [<- c]; rfl
  ·left;have h : ¬ (j : Int) < (a.length : Int) :=om;simp only [zS, Z17, Z20, h];rw [J12 (l := a) om] at c;by_cases f : a.length < b.length
   ·have d : (a.length : Int) < (b.length : Int) :=om;simp only [zS, d];rw [Ja om] at c;rw [<- c]; rfl
   ·have d : ¬ (a.length : Int) < (b.length : Int) :=om;simp only [zS, d];rw [J12 om] at c;rw [<- c]; rfl) N 0 om ⟨om, om, rfl⟩
 exact this
def cmpFacts (a b : Fact) : Int := if a.1 < b.1 then -1 else if a.1 > b.1 then 1 else cmpInts a.2 b.2
theorem Y45 {a b : Fact} (e : a.2.length <= 1048576) (f : b.2.length <= 1048576) (d : 1048576 < N) : Z1c N a b = some (cmpFacts a b) := by
 unfold Z1c cmpFacts;rw [Y51 e f d];by_cases c : a.1 < b.1
 ·simp [c]
 ·grind
theorem Y9i {a b : Fact} (d : a.2.length <= 1048576) (e : b.2.length <= 1048576) (c : 1048576 < N) : Z3o N a b = some (cmpFacts a b) := by
 unfold Z3o cmpFacts Z88;rw [Y8h d e c, bneI];by_cases f : a.1 < b.1
 ·grind
 ·grind
theorem Y52 {a : Type} (d : a) {xs : List a} {p : a -> Bool} : (∃ j, j < xs.length /\ p (xs.getD j d) = true) ↔ xs.any p = true := by
 rw [J18];constructor
 ·grind
 ·rintro ⟨x, b, h⟩
  obtain ⟨i, hi, rfl⟩ := Jg.1 b;exact ⟨i, hi, gr⟩
theorem Yk {c : Type} {d : c} {xs : List c} {p : c -> Bool} {g : Option Int} (h : (∃ j, j < xs.length /\ p (xs.getD j d) = true /\ (∀ i, i < j -> p (xs.getD i d) = false) /\ g = some (j : Int)) \/ ((∀ i, i < xs.length -> p (xs.getD i d) = false) /\ g = some (-1))) : (g.bind fun r => some (decide (r >= 0))) = some (xs.any p) := by
 rcases h with ⟨j, b, a, _, rfl⟩ | ⟨b, rfl⟩
 ·rw [(Y52 d).1 ⟨j, b, a⟩];simp
 ·have : xs.any p = false := by
   rw [J1c];intro h;obtain ⟨j, e, a⟩ := (Y52 d).2 h;rw [b j e] at a; simp at a
  rw [this]; rfl
theorem Y7e {v : List Int} (hv : v.length <= 1048576) (c : 1048576 < N) : Z52 N v = some (validVals v) := by
 unfold Z52 Z0e Z0k Z2o;rw [Yk (d := (0 : Int)) (xs := v) (p := fun x => !decide (0 <= x /\ x <= 9)) (first (n := v.length) (fun j => !decide (0 <= v.getD j 0 /\ v.getD j 0 <= 9)) (fun k i => Z0d N k v (v.length : Int) i) (fun k => by simp [Z0d, Z11]) (fun k j a => ?_) om)]
 ·simp only [J0, validVals];rw [show (v.any fun x => !decide (0 <= x /\ x <= 9)) = !(v.all fun x => decide (0 <= x /\ x <= 9)) from (List.not_all_eq_any_not (l := v) (p := fun x => decide (0 <= x /\ x <= 9))).symm, Bool.not_not]
 ·have b : (j : Int) < (v.length : Int) :=om;simp only [zS, Z0d, Z11, b, Y1 a, Y3 a, Z4n, Yr, Y2 a, Y0 (j := j)];cases decide (0 <= v[j] /\ v[j] <= 9) <;> rfl
theorem Y7f {l : List Rel} {f : Fact} (d : l.length <= 1048576) (c : f.2.length <= 1048576) (b : 1048576 < N) : Z7q N l f = some (fact1 l f) := by
 obtain ⟨r, v⟩ := f;simp only [Z7q, Yr, J0, fact1];rw [Y5];by_cases h : 0 <= r /\ r <= (l.length : Int) - 1
 ·have a : r.toNat < l.length :=om;simp only [zS, h, and_self, Y8 h.1 (show r < l.length by omega), Ym h.1 (show r < l.length by omega), beqI, Y2 a, Jc];rw [Y7e c b];cases decide ((v.length : Int) = l[r.toNat].2.1) <;> rfl
 ·grind
def factAt (d : Db) (j : Nat) : Fact := d.2.getD j (0, [])
def factsOk (d : Db) : Prop := ∀ j, j < d.2.length -> (fact1 d.1 (factAt d j) && (decide (j = 0) || decide (cmpFacts (factAt d (j - 1)) (factAt d j) < 0))) = true
instance (d : Db) : Decidable (factsOk d) := by unfold factsOk; infer_instance
def validDb (d : Db) : Bool := validRels d.1 && (decide (d.2.length <= 14) && decide (factsOk d))
theorem Ys {d : Db} (h : SmallDb d) (c : 1048576 < N) : Z1 N d = some (validDb d) := by
 have hv : ∀ j, j < d.2.length -> (factAt d j).2.length <= 1048576 := fun j a => by unfold factAt; rw [Y2 a]; exact h.vals _ (J4 a)
 unfold Z1 Z7m;rw [Yf (n := d.2.length) (fun j => (validRels d.1 && fact1 d.1 (factAt d j)) && (decide (j = 0) || decide (cmpFacts (factAt d (j - 1)) (factAt d j) < 0))) (some false) (some (validRels d.1 && decide (d.2.length <= 14))) (fun k i => Z2a N k d.1 d.2 i)
  (fun k => by
   simp only [zS, Z2a, Z4c, Jr, Y20 h.rels c];cases validRels d.1 with
   | false => rfl
   | true => simp only [J5, Jc, J20]; exact decide_eq_decide.2 om) (fun k j a => ?_) (by have := h.facts; omega)]
 ·unfold validDb factsOk;cases r : validRels d.1 with
  | true =>
   simp only [Jc];by_cases o : ∀ j, j < d.2.length -> (fact1 d.1 (factAt d j) && (decide (j = 0) || decide (cmpFacts (factAt d (j - 1)) (factAt d j) < 0))) = true
   ·grind
   ·grind
  | false => simp
 ·have f : (j : Int) < (d.2.length : Int) :=om;have q := h.facts;have l : at_ (0, []) d.2 (j : Int) = factAt d j := by unfold factAt; rw [Y3 a, Y2 a]
  simp only [zS, Z2a, Z4c, f, Y1 a, l, Y1h h.rels (hv j a) c, Y0 (j := j)];cases validRels d.1 && fact1 d.1 (factAt d j) with
  | false => rfl
  | true =>
   simp only [zS, Jc];by_cases e : j = 0
   ·subst e; simp
   ·have g : (j : Int) > 0 :=om;have b : j - 1 < d.2.length :=om;have m : at_ (0, []) d.2 ((j - 1 : Nat) : Int) = factAt d (j - 1) := by unfold factAt; rw [Y3 b, Y2 b]
    simp only [zS, g, Yd (show 0 < j by omega) om, Y1 b, m, Y45 (hv _ b) (hv _ a) c, e, J1b];by_cases p : cmpFacts (factAt d (j - 1)) (factAt d j) < 0
    ·grind
    ·grind
theorem Y7g {d : Db} (h : SmallDb d) (e : 1048576 < N) : Z1e N d = some (validDb d) := by
 have hv : ∀ j, j < d.2.length -> (factAt d j).2.length <= 1048576 := fun j a => by unfold factAt; rw [Y2 a]; exact h.vals _ (J4 a)
 unfold Z1e Z7r;rw [Y50 h.rels e, J0];unfold validDb;cases validRels d.1 with
 | false => rfl
 | true =>
  simp [J1];by_cases c : d.2.length <= 14
  ·have : ¬ (d.2.length : Int) > 14 :=om;simp [this, J1, c];rw [Yf (n := d.2.length) (fun j => fact1 d.1 (factAt d j) && (decide (j = 0) || decide (cmpFacts (factAt d (j - 1)) (factAt d j) < 0))) (some false) (some true) (fun k i => Z2c N k d.1 d.2 d.2 (d.2.length : Int) i)
    (fun k => by simp [Z2c, Z4d]) (fun k j a => ?_) om]
   ·unfold factsOk;by_cases p : ∀ j, j < d.2.length -> (fact1 d.1 (factAt d j) && (decide (j = 0) || decide (cmpFacts (factAt d (j - 1)) (factAt d j) < 0))) = true
    ·grind
    ·grind
   ·have g : (j : Int) < (d.2.length : Int) :=om;have m : at_ (0, []) d.2 (j : Int) = factAt d j := by unfold factAt; rw [Y3 a, Y2 a]
    simp only [zS, Z2c, Z4d, g, Y1 a, m, Y7f h.rels (hv j a) e, Y0 (j := j)];cases fact1 d.1 (factAt d j) with
    | false => rfl
    | true =>
     simp only [zS, Jc];by_cases f : j = 0
     ·subst f; simp
     ·have l : (j : Int) > 0 :=om;have b : j - 1 < d.2.length :=om;have o : at_ (0, []) d.2 ((j - 1 : Nat) : Int) = factAt d (j - 1) := by unfold factAt; rw [Y3 b, Y2 b]
      simp only [zS, l, Yd (show 0 < j by omega) om, Y1 b, o, Y9i (hv _ b) (hv _ a) e, f, J1b];by_cases q : cmpFacts (factAt d (j - 1)) (factAt d j) < 0
      ·grind
      ·grind
  ·grind
theorem Y28 : ∀ (a b c : List Int), cmpInts a b < 0 -> cmpInts b c < 0 -> cmpInts a c < 0
 | [], [], c, h, _ => gr
 | [], _ :: _, [], _, h => by simp [cmpInts] at h
 | [], _ :: _, _ :: _, _, _ => by simp [cmpInts]
 | _ :: _, [], c, h, _ => by simp [cmpInts] at h
 | _ :: _, _ :: _, [], _, h => by simp [cmpInts] at h
 | x :: a, y :: b, z :: c, h1, h2 => by
  simp [cmpInts] at h1 h2 ⊢;by_cases d : x < y
  ·grind
  ·rw [Jn d] at h1;split at h1
   ·omega
   ·have : x = y :=om;subst this;by_cases e : x < z
    ·grind
    ·rw [Jn e] at h2 ⊢;split at h2
     ·omega
     ·rename_i f;rw [Jn f];exact Y28 a b c h1 h2
theorem Y46 {a b c : Fact} (d : cmpFacts a b < 0) (e : cmpFacts b c < 0) : cmpFacts a c < 0 := by
 unfold cmpFacts at d e ⊢;by_cases f : a.1 < b.1
 ·grind
 ·rw [Jn f] at d;split at d
  ·omega
  ·by_cases g : b.1 < c.1
   ·grind
   ·rw [Jn g] at e;split at e
    ·omega
    ·rw [Jn om, Jn om];exact Y28 _ _ _ d e
theorem Z0ej : ∀ (n : Nat) (a b c : List Int), cmpInts a b < 0 -> cmpInts b c < 0 -> a.take n = c.take n -> a.length = b.length -> b.length = c.length -> a.take n = b.take n
 | 0, _, _, _, _, _, _, _, _ => sm
 | n + 1, [], [], _, h, _, _, _, _ => gr
 | n + 1, [], _ :: _, _, _, _, _, h, _ => by simp at h
 | n + 1, _ :: _, [], _, _, _, _, h, _ => by simp at h
 | n + 1, _ :: _, _ :: _, [], _, _, _, _, h => by simp at h
 | n + 1, x :: a, y :: b, z :: c, h1, h2, d, h4, h5 => by
  simp at d ⊢;simp [cmpInts] at h1 h2;obtain ⟨rfl, d⟩ := d;by_cases e : x < y
  ·grind
  ·rw [Jn e] at h1;split at h1
   ·omega
   ·have : x = y :=om;subst this;rw [Jn om, Jn om] at h2;exact ⟨rfl, Z0ej n a b c h1 h2 d (by simpa using h4) (by simpa using h5)⟩
section
variable (S : Nat -> Nat -> Bool)
def blk (n s : Nat) : List Nat := (List.range n).filter (S s)
def isSt (s : Nat) : Bool := (List.range s).all fun k => !S s k
def sts (n : Nat) : List Nat := (List.range n).filter (isSt S)
def B (n : Nat) : List (List Nat) := (sts S n).map (blk S n)
structure Runs (n : Nat) : Prop where
 refl : ∀ i, S i i = true
 symm : ∀ i k, S i k = true -> S k i = true
 trans : ∀ i j k, S i j = true -> S j k = true -> S i k = true
 run : ∀ i j k, i <= j -> j <= k -> k < n -> S i k = true -> S i j = true
variable {S}
theorem Ya {s : Nat} : isSt S s = true ↔ ∀ k, k < s -> S s k = false := by
 unfold isSt;rw [Jp];constructor
 ·grind
 ·grind
theorem Yw (n : Nat) : sts S (n + 1) = sts S n ++ (if isSt S n = true then [n] else []) := by
 unfold sts;rw [J16, J1m];congr 1;by_cases h : isSt S n = true <;> simp [h]
theorem Y1i (n s : Nat) : blk S (n + 1) s = blk S n s ++ (if S s n = true then [n] else []) := by
 unfold blk;rw [J16, J1m];congr 1;by_cases h : S s n = true <;> simp [h]
theorem Y1v {n s : Nat} : s ∈ sts S n ↔ s < n /\ isSt S s = true := by
 unfold sts; rw [Jj, Jf]
theorem Y7h {n : Nat} (h : isSt S n = true) : blk S n n = [] := by
 unfold blk;rw [J23];intro k a;rw [Ya.1 h k (Jf.1 a)]; simp
theorem Y6w {N n : Nat} (a : Runs S N) (h : isSt S n = true) : B S (n + 1) = B S n ++ [[n]] := by
 unfold B;rw [Yw, Je h, Jk];congr 1
 ·apply J1k;intro s d;obtain ⟨b, e⟩ := Y1v.1 d;rw [Y1i, Jn, Jm];intro c;have := a.symm _ _ c;rw [Ya.1 h s b] at this;simp at this
 ·simp;rw [Y1i, Y7h h, Je (a.refl n)]; rfl
theorem Y1d {N : Nat} (a : Runs S N) : ∀ n, 0 < n -> n <= N -> ∃ A t, sts S n = A ++ [t] /\ t < n /\ isSt S t = true /\ ∀ k, t <= k -> k < n -> S t k = true
 | 0, h, _ => om
 | n + 1, _, hN => by
  by_cases h : isSt S n = true
  ·refine ⟨sts S n, n, by rw [Yw, Je h], om, h, fun k d b => ?_⟩;have : k = n :=om;subst this;exact a.refl _
  ·have j : 0 < n := by
    apply J1e;intro r;have : n = 0 :=om;subst this;apply h;rw [Ya]; intro k i; omega
   obtain ⟨A, t, e, d, b, f⟩ := Y1d a n j om;refine ⟨A, t, by rw [Yw, Jn h, Jm]; exact e, om, b, fun k k1 s => ?_⟩;by_cases i : k < n
   ·grind
   ·have : k = n :=om;subst this;obtain ⟨q, u, o⟩ : ∃ q, q < k /\ S k q = true := by
     apply J1e;intro g;apply h;rw [Ya];intro q l;rw [J1c];exact fun m => g ⟨q, l, m⟩
    have c := a.symm _ _ o;have p := a.run q (k - 1) k om om om c;exact a.trans _ _ _ (f (k - 1) om om) (a.trans _ _ _ (a.symm _ _ p) c)
theorem Y6x {N n : Nat} (c : Runs S N) (h : ¬ isSt S n = true) (m : n < N) {A : List Nat} {t : Nat} (e : sts S n = A ++ [t]) (f : S t n = true) : B S (n + 1) = A.map (blk S n) ++ [blk S n t ++ [n]] := by
 unfold B;rw [Yw, Jn h, Jm, e, Jk];congr 1
 ·apply J1k;intro s j;rw [Y1i, Jn, Jm];intro g;have b := c.trans _ _ _ g (c.symm _ _ f);have k := Y1v.1 (show s ∈ sts S n by grind);have l := Y1v.1 (show t ∈ sts S n by rw [e]; simp);have i : s ≠ t := by
   have a : (sts S n).Nodup := List.nodup_range.sublist List.filter_sublist;rw [e] at a;exact fun h => (List.nodup_append.1 a).2.2 s j t sm h
  by_cases d : s < t
  ·have := Ya.1 l.2 s d;rw [c.symm _ _ b] at this; simp at this
  ·have := Ya.1 k.2 t om;rw [b] at this; simp at this
 ·simp;rw [Y1i, Je f]
theorem Y3e {n s : Nat} (j : S s s = true) (l : s < n) : ∃ h r, blk S n s = h :: r /\ S s h = true /\ (h = s ↔ isSt S s = true) := by
 have q : s ∈ blk S n s := Jj.2 ⟨Jf.2 l, j⟩;cases g : blk S n s with
 | nil => grind
 | cons h r =>
  have c : (blk S n s).head? = some h := by rw [g]; rfl
  unfold blk at c;rw [List.head?_filter, List.find?_range_eq_some] at c;obtain ⟨b, m, f⟩ := c;refine ⟨h, r, rfl, b, ?_⟩;constructor
  ·intro e;subst e;rw [Ya];intro k i;have := f k i;simpa using this
  ·intro d;have o : ¬ h < s := fun a => by
    rw [Ya.1 d h a] at b; simp at b
   have p : ¬ s < h := fun a => gr;omega
theorem Y3f {N : Nat} (a : Runs S N) : ∀ n, n <= N -> ((B S n).map List.length).sum = n
 | 0, _ => by simp [B, sts]
 | n + 1, hn => by
  by_cases h : isSt S n = true
  ·rw [Y6w a h, Jk, List.sum_append, Y3f a n om]; simp
  ·have f : 0 < n := by
    apply J1e;intro g;have : n = 0 :=om;subst this;apply h;rw [Ya]; intro k l; omega
   obtain ⟨A, t, e, i, j, d⟩ := Y1d a (n + 1) om hn;have c : sts S n = A ++ [t] := by rw [Yw, Jn h, Jm] at e; exact e
   have b := Y3f a n om;rw [Y6x a h om c (d n om om)];unfold B at b;rw [c] at b;simp at b ⊢;omega
end
def keyLen (l : List Rel) (f : Fact) : Int := (l.getD f.1.toNat (⟨#[]⟩, 0, 0)).2.2
def keyOf (l : List Rel) (f : Fact) : List Int := f.2.take (keyLen l f).toNat
def sameK (l : List Rel) (a b : Fact) : Bool := decide (a.1 = b.1) && decide (keyOf l a = keyOf l b)
theorem Y53 {r : Rel} (h : validRel r = true) : 0 <= r.2.2 /\ r.2.2 <= r.2.1 := by
 unfold validRel Z8 at h;by_cases d : r.1.size = 1
 ·have a : ∃ b, byteAt r.1 0 = some b := by
   unfold byteAt;have : (0 : Int).toNat < r.1.size :=om;exact ⟨r.1[(0 : Int).toNat], by rw [Je om, getElem?_pos]⟩
  obtain ⟨b, a⟩ := a;rw [a] at h;simp only [J0, l1In] at h;by_cases c : 0 <= r.2.2 /\ r.2.2 <= r.2.1
  ·exact c
  ·grind
 ·grind
theorem Y2a {l : List Rel} (h : validRels l = true) {j : Nat} (a : j < l.length) : validRel (l.getD j (⟨#[]⟩, 0, 0)) = true := by
 have := (of_decide_eq_true h).1 j a;rw [Jd] at this;exact this.1
structure GoodFact (l : List Rel) (f : Fact) : Prop where
 lo : 0 <= f.1
 hi : f.1 < (l.length : Int)
 len : (f.2.length : Int) = (l.getD f.1.toNat (⟨#[]⟩, 0, 0)).2.1
 k0 : 0 <= keyLen l f
 k1 : keyLen l f <= (f.2.length : Int)
theorem Yx {l : List Rel} {f : Fact} (d : validRels l = true) (a : fact1 l f = true) : GoodFact l f := by
 unfold fact1 at a;rw [Jd, Jd, J3, J3] at a;obtain ⟨⟨c, e⟩, b, g⟩ := a;have := Y53 (Y2a d (j := f.1.toNat) om);exact ⟨c, om, b, this.1, by rw [b]; exact this.2⟩
theorem Y7i {a b : List Int} (m : a.length <= 1048576) (l : 1048576 < N) : Z22 N a b = some (decide (a = b)) := by
 unfold Z22 Z76;by_cases f : a.length = b.length
 ·have : ((a.length : Int) != (b.length : Int)) = false := by rw [bneI]; simp; omega
  rw [this, J1, Yal (n := a.length) (fun j => decide (a[j]? = b[j]?)) (fun k i => Z21 N k a b (a.length : Int) i) (fun k => by simp [Z21, Z3x]) (fun k j d => ?_) om]
  ·congr 1;exact decide_eq_decide.2 (Y64 f).symm
  ·have g : (j : Int) < (a.length : Int) :=om;have c : j < b.length :=om;simp only [zS, Z21, Z3x, g, Y1 d, Y1 c, Y3 d, Y3 c, Y0 (j := j), bneI, J15 d, J15 c, J20];by_cases h : a[j] = b[j] <;> simp [h]
 ·have : ((a.length : Int) != (b.length : Int)) = true := by rw [bneI]; simp; omega
  have e : ¬ a = b := fun h => f (by rw [h]);rw [this, J5, J7 e]
theorem Yo {lo hi : Int} {n : Nat} (a : 0 <= lo) (b : lo <= hi) (c : hi <= (n : Int)) : subOk lo hi n = true := by
 unfold subOk; rw [J2 a, J2 b, J2 c]; rfl
theorem Y4 {c : Type} {s x : List c} {b : Nat} (a : b <= 1000 := by omega) (h : s.length + x.length <= 140737488355 := by first | omega | (simp only [J26, List.length_nil]; omega) | (simp <;> omega)) : appOk s x b = true := by
 refine J2 ?_
 calc (s.length + x.length) * b <= 140737488355 * 1000 := Nat.mul_le_mul h a
  _ <= _ :=om
theorem Y6f {l : List Rel} {f : Fact} (d : l.length <= 1048576) (c : f.2.length <= 1048576) (b : 1048576 < N) (hv : validRels l = true) (a : fact1 l f = true) : Z7h N l f = some (keyOf l f) := by
 have g := Yx hv a;have e : (at_ (⟨#[]⟩, 0, 0) l f.1).2.2 = keyLen l f := rfl;unfold Z7h;rw [Y1h d c b, hv, a, J0, Y8 g.lo g.hi, grd_true];simp [J1, e];rw [Yo om g.k0 g.k1, grd_true, Y4, grd_true];rfl
theorem Y8i {l : List Rel} {a b : Fact} (d : l.length <= 1048576) (g : a.2.length <= 1048576) (i : b.2.length <= 1048576) (c : 1048576 < N) (hv : validRels l = true) (e : fact1 l a = true) (f : fact1 l b = true) : Z40 N l a b = some (sameK l a b) := by
 unfold Z40 sameK;rw [Y1h d g c, Y1h d i c, hv, e, f];simp only [zS, Bool.and_self, beqI];by_cases h : a.1 = b.1
 ·rw [J2 h, J5, Y6f d g c hv e, Y6f d i c hv f, J0, J0,
   Y51 (by unfold keyOf; rw [J19]; omega) (by unfold keyOf; rw [J19]; omega) c, J0, Jc]
  congr 1;exact decide_eq_decide.2 (Y3p _ _)
 ·grind
theorem Y8j {l : List Rel} {a b : Fact} (j : a.2.length <= 1048576) (k : b.2.length <= 1048576) (i : 1048576 < N) (hv : validRels l = true) (d : fact1 l a = true) (f : fact1 l b = true) : Z6u N l a b = some (sameK l a b) := by
 have g := Yx hv d;have g' := Yx hv f;have e : (at_ (⟨#[]⟩, 0, 0) l a.1).2.2 = keyLen l a := rfl;unfold Z6u sameK;rw [bneI];by_cases h : a.1 = b.1
 ·have c : keyLen l a = keyLen l b := by unfold keyLen; rw [h]
  rw [J2 h, J9, J1, Y8 g.lo g.hi, grd_true, e];rw [Yo om g.k0 g.k1, grd_true, Yo om g.k0 (by have := g'.k1; rw [<- c] at this; exact this), grd_true, Y7i gr i, J0, Jc];unfold keyOf;rw [<- c]
 ·simp_all
def sameD (d : Db) (i k : Nat) : Bool := sameK d.1 (factAt d i) (factAt d k)
structure ValidDb (d : Db) : Prop where
 rels : validRels d.1 = true
 few : d.2.length <= 14
 fact : ∀ j, j < d.2.length -> fact1 d.1 (factAt d j) = true
 lt : ∀ i k, i < k -> k < d.2.length -> cmpFacts (factAt d i) (factAt d k) < 0
theorem Y9 {d : Db} (h : validDb d = true) : ValidDb d := by
 unfold validDb at h;rw [Jd, Jd, J3, J3] at h;obtain ⟨f, g, c⟩ := h;refine ⟨f, g, fun j b => ?_, ?_⟩
 ·have := c j b;rw [Jd] at this;exact this.1
 ·have a : ∀ j, 0 < j -> j < d.2.length -> cmpFacts (factAt d (j - 1)) (factAt d j) < 0 := by
   intro j o b;have := c j b;rw [Jd, J2i, J3, J3] at this;rcases this.2 with h | h
   ·omega
   ·exact h
  intro i k
  induction k with
  | zero => intro h; omega
  | succ k n =>
   intro l m;have e := a (k + 1) om m;rw [Nat.add_sub_cancel] at e;by_cases h : i = k
   ·grind
   ·exact Y46 (n om om) e
theorem runs {d : Db} (h : ValidDb d) : Runs (sameD d) d.2.length := by
 refine ⟨fun i => by simp [sameD, sameK], fun i k f => ?_, fun i j k n o => ?_, fun i j k y z q f => ?_⟩
 ·simp [sameD, sameK] at f ⊢;exact ⟨f.1.symm, f.2.symm⟩
 ·simp [sameD, sameK] at n o ⊢;exact ⟨n.1.trans o.1, n.2.trans o.2⟩
 ·by_cases u : i = j
  ·subst u; simp [sameD, sameK]
  ·by_cases C : j = k
   ·grind
   ·have l := h.lt i j om om;have m := h.lt j k om q;have v := Yx h.rels (h.fact i om);have w := Yx h.rels (h.fact j om);have x := Yx h.rels (h.fact k q);simp [sameD, sameK] at f ⊢;obtain ⟨F, p⟩ := f;generalize factAt d i = a at *;generalize factAt d j = b at *;generalize factAt d k = c at *;have e : a.1 = b.1 := by
     unfold cmpFacts at l m;by_cases E : a.1 < b.1
     ·grind
     ·grind
    have g : b.1 = c.1 :=om;have s : cmpInts a.2 b.2 < 0 := by unfold cmpFacts at l; rw [Jn om, Jn om] at l; exact l
    have t : cmpInts b.2 c.2 < 0 := by unfold cmpFacts at m; rw [Jn om, Jn om] at m; exact m
    have k1 : keyLen d.1 a = keyLen d.1 b := by unfold keyLen; rw [e]
    have A : keyLen d.1 b = keyLen d.1 c := by unfold keyLen; rw [g]
    have r := v.len;have B := w.len;have D := x.len;rw [e] at r;rw [g] at r B;unfold keyOf at p ⊢;rw [<- A, <- k1] at p;rw [<- k1];exact ⟨e, Z0ej _ _ _ _ s t p om om⟩
abbrev Ctx := List Int × Int × Int
structure COk (c : Ctx) : Prop where
 len : c.1.length <= 1048576
 lo : 0 <= c.2.1
 hi : c.2.1 <= c.1.length
def Dr {a : Type} (c : Ctx) (o : Option (Ctx × a)) (Q : a -> Prop) : Prop := ∃ (p : Int × Int) (x : a), o = some ((c.1, p), x) /\ COk (c.1, p) /\ Q x
theorem Dr.bind {a d : Type} {c : Ctx} {o : Option (Ctx × a)} {Q : a -> Prop} {k : Ctx × a -> Option (Ctx × d)} {b : d -> Prop} (h : Dr c o Q) (i : ∀ p x, COk (c.1, p) -> Q x -> Dr (c.1, p) (k ((c.1, p), x)) b) : Dr c (o.bind k) b := by
 obtain ⟨p, x, e, f, g⟩ := h;rw [e, J0];exact i p x f g
theorem Dr.ret {a : Type} {c : Ctx} {p : Int × Int} {x : a} {Q : a -> Prop} (h : COk (c.1, p)) (b : Q x) : Dr c (some ((c.1, p), x)) Q := ⟨p, x, rfl, h, b⟩
theorem Dr.mono {b : Type} {c : Ctx} {o : Option (Ctx × b)} {Q a : b -> Prop} (h : Dr c o Q) (g : ∀ x, Q x -> a x) : Dr c o a := by
 obtain ⟨p, x, d, e, f⟩ := h;exact ⟨p, x, d, e, g x f⟩
theorem Y7j (x : Int) : 0 <= bits .and .i64 x 255 /\ bits .and .i64 x 255 <= 255 := by
 have h : (BitVec.ofInt 64 x &&& BitVec.ofInt 64 255).toNat <= 255 := by
  rw [BitVec.toNat_and];exact Jh Nat.and_le_right (by decide)
 show 0 <= w64 ((BitVec.ofInt 64 x &&& BitVec.ofInt 64 255).toNat : Int) /\ w64 ((BitVec.ofInt 64 x &&& BitVec.ofInt 64 255).toNat : Int) <= 255;rw [Y5];omega
theorem Yam {code : List Int} (d : code.length <= 1048576) (g : 1048576 < N) : ∃ c, Z8j N code = some c /\ COk c := by
 unfold Z8j Z0bm;have := loop (fun k (s : Int × Nat) => Z8u N k code s.1 (s.2 : Int)) (fun s => s.2 <= code.length) (fun s => code.length - s.2) (fun o => ∃ c, o = some c /\ COk c) (fun k s f => by
  obtain ⟨h, j⟩ := s;simp only at f ⊢;simp only [Z8u, Z0aj];by_cases e : j < code.length
  ·by_cases b : (j : Int) < 4000
   ·right;refine ⟨(bits .and .i64 (w64 ((w64 ((w64 (h * 131)) + (w64 (at_ 0 code j)))) + 7)) 1073741823, j + 1), e, om, ?_⟩;have a : (j : Int) < (code.length : Int) :=om;simp only [zS, a, b, Y1 e, Y0 (j := j)]
   ·left;have a : (j : Int) < (code.length : Int) :=om;simp only [zS, a, b];exact ⟨_, rfl, d, J1h 0, sm⟩
  ·left;have a : ¬ (j : Int) < (code.length : Int) :=om;simp only [zS, a];exact ⟨_, rfl, d, J1h 0, sm⟩) N (w64 (10101 + (code.length : Int)), 0) (by simp; omega) sm
 exact this
theorem Y2b {c : Ctx} (h : COk c) : Dr c (Z3d N c) (fun b => 0 <= b /\ b <= 255) := by
 obtain ⟨l, p, q⟩ := c;obtain ⟨a, d, f⟩ := h;simp only at a d f;simp [Z3d];by_cases e : p < (l.length : Int)
 ·simp only [zS, e, Y8 d e];have : w64 (p + 1) = p + 1 := Y5;refine Dr.ret (c := (l, p, q)) ⟨a, ?_, ?_⟩ (Y7j _)
  ·grind
  ·grind
 ·simp [e, J1];exact Dr.ret (c := (l, p, q)) ⟨a, d, f⟩ (Y7j _)
theorem Y6g {x n : Int} (b : 0 <= x) (a : 0 < n) : 0 <= x.tmod n /\ x.tmod n < n := ⟨Int.tmod_nonneg n b, Int.tmod_lt_of_pos x a⟩
theorem Y6 {c : Ctx} {n : Int} (h : COk c) : Dr c (Z0 N c n) (fun b => 0 <= b /\ (0 < n -> b < n) /\ (n <= 0 -> b = 0)) := by
 unfold Z0;by_cases o : n <= 0
 ·simp only [zS, o];exact ⟨c.2, 0, rfl, h, J1h 0, fun f => absurd f om, fun _ => rfl⟩
 ·simp only [zS, o];by_cases f : n <= 256
  ·simp only [zS, f];refine (Y2b h).bind fun p x i q => ?_;simp only [Yc (show n ≠ 0 by omega)];have := Y6g q.1 (show 0 < n by omega);exact Dr.ret (c := (c.1, p)) i ⟨this.1, fun _ => this.2, fun g => g.elim⟩
  ·simp only [zS, f];refine (Y2b h).bind fun p x i q => ?_;refine (Y2b (c := (c.1, p)) i).bind fun u a j r => ?_;refine (Y2b (c := (c.1, u)) j).bind fun v d k s => ?_;refine (Y2b (c := (c.1, v)) k).bind fun w m l t => ?_;simp only [Yc (show n ≠ 0 by omega)];have e : w64 ((w64 ((w64 ((w64 (x * 16777216)) + (w64 (a * 65536)))) + (w64 (d * 256)))) + m) = x * 16777216 + a * 65536 + d * 256 + m := by
    rw [Y5 (x := x * 16777216), Y5 (x := a * 65536), Y5 (x := d * 256), Y5 (x := x * 16777216 + a * 65536), Y5 (x := x * 16777216 + a * 65536 + d * 256), Y5]
   have := Y6g (x := x * 16777216 + a * 65536 + d * 256 + m) om (show 0 < n by omega);rw [e];exact Dr.ret (c := (c.1, w)) l ⟨this.1, fun _ => this.2, fun g => g.elim⟩
theorem Y1j {c : Ctx} {l : List Int} (h : COk c) (d : 0 < l.length) : Dr c (Z0n N c l) (fun x => x ∈ l) := by
 refine (Y6 h).bind fun p x b a => ?_;have hi := a.2.1 om;simp only [Y8 a.1 hi, grd_true, Ym a.1 hi];exact Dr.ret (c := (c.1, p)) b (J4 _)
theorem Y6h {c : Ctx} {l : List ByteArray} (h : COk c) (d : 0 < l.length) : Dr c (Z58 N c l) (fun x => x ∈ l) := by
 refine (Y6 h).bind fun p x b a => ?_;have hi := a.2.1 om;simp only [Y8 a.1 hi, grd_true, Ym a.1 hi];exact Dr.ret (c := (c.1, p)) b (J4 _)
def rels4 (x y : Int) : List Rel := [(⟨#[114]⟩, 2, 1), (⟨#[115]⟩, 2, 1), (⟨#[116]⟩, 2, x), (⟨#[117]⟩, 3, y)]
def RelsD (l : List Rel) : Prop := l.length = 4 /\ (∀ r ∈ l, 2 <= r.2.1 /\ r.2.1 <= 3) /\ ∃ x y : Int, (x = 0 \/ x = 1 \/ x = 2) /\ (y = 1 \/ y = 2) /\ l = rels4 x y
theorem Ya6 {c : Ctx} (h : COk c) : Dr c (Z7k N c) RelsD := by
 refine (Y1j h (by decide)).bind fun p x d i => ?_;refine (Y6 (c := (c.1, p)) d).bind fun e f b a => ?_;refine Dr.ret (c := (c.1, e)) b ⟨rfl, fun r g => ?_, x, w64 (1 + f), ?_, ?_, rfl⟩
 ·grind
 ·grind
 ·have := a.1;have := a.2.1 (by decide);rw [Y5];omega
theorem Yan {l : List Rel} (c : RelsD l) {x : Int} (a : 0 <= x) (b : x < l.length) : inb x l = true /\ 2 <= (at_ ((⟨#[]⟩, (0, 0)) : Rel) l x).2.1 /\ (at_ ((⟨#[]⟩, (0, 0)) : Rel) l x).2.1 <= 3 := by
 refine ⟨Y8 a b, ?_⟩;rw [Ym a b];exact c.2.1 _ (J4 _)
def FactD (f : Fact) : Prop := 2 <= f.2.length /\ f.2.length <= 3
theorem Y54 {c : Ctx} {l : List Rel} {v : Int} (h : COk c) (d : RelsD l) (z : 1048576 < N) : Dr c (Z57 N c l v) FactD := by
 refine (Y6 h).bind fun p x j g => ?_;have hi := g.2.1 (by rw [d.1]; decide);obtain ⟨i, u, w⟩ := Yan d g.1 hi;have := loop (fun k (s : (Int × Int) × List Int) => Z80 N k c.1 s.1.1 s.1.2 l v 0 [] x s.2) (fun s => COk (c.1, s.1) /\ (s.2.length : Int) <= (at_ ((⟨#[]⟩, (0, 0)) : Rel) l x).2.1) (fun s => 4 - s.2.length) (fun o => Dr c o FactD) (fun k s f => by
  obtain ⟨q, f2⟩ := s;simp only at f ⊢;obtain ⟨a, r⟩ := f;simp only [Z80, Z0a8, i, grd_true];by_cases b : (f2.length : Int) < (at_ ((⟨#[]⟩, (0, 0)) : Rel) l x).2.1
  ·right;simp only [zS, b];obtain ⟨t, y, e, m, A⟩ := Y6 (N := N) (c := (c.1, q.1, q.2)) (n := v) a;refine ⟨(t, f2 ++ [y]), ⟨m, by simp; omega⟩, by simp; omega, ?_⟩;rw [e, J0];simp only;rw [Y4, grd_true]
  ·left;simp [b, J1];exact Dr.ret (c := c) (p := q) a ⟨by simp only; omega, by simp only; omega⟩) N (p, []) (by simp; omega) ⟨j, by simp; omega⟩
 exact this
structure DbD (m : Nat) (d : Db) : Prop where
 rels : d.1.length <= 1000
 facts : d.2.length <= m
 vals : ∀ f ∈ d.2, f.2.length <= 1000
theorem DbD.small {m : Nat} {d : Db} (h : DbD m d) (b : m <= 1000) : SmallDb d := ⟨Jh h.rels om, Jh h.facts om, fun f a => Jh (h.vals f a) om⟩
theorem Ya7 {N m : Nat} {d : Db} (h : DbD m d) (g : m <= 1000) (e : 1048576 < N) : Z7l N d = some d := by
 have i := h.rels;have f := h.facts;unfold Z7l Z0b6;rw [Y4, grd_true];have := loop (fun k (s : Nat) => Z81 N k d.1 d.2 [] [] d.1 (d.2.take s) (s : Int)) (fun s => s <= d.2.length) (fun s => d.2.length - s) (fun o => o = some d) (fun k j l => by
  simp only [Z81, Z0a9];by_cases a : j < d.2.length
  ·right;refine ⟨j + 1, a, om, ?_⟩;have b : (j : Int) < (d.2.length : Int) :=om;have c := h.vals _ (J4 a);simp only [zS, b, Y1 a, Y3 a];rw [Y4, grd_true, Y4, grd_true, Y0, J6 a]
  ·grind) N 0 om om
 simpa using this
theorem Ya8 {N m : Nat} {d : Db} {f : Fact} (h : DbD m d) (p : m <= 1000) (l : f.2.length <= 1000) (c : 1048576 < N) : ∃ i, Z6n N d f = some i := by
 have n := h.facts;have := loop (fun k (s : Nat) => Z61 N k d.1 d.2 f.1 f.2 (s : Int)) (fun s => s <= d.2.length) (fun s => d.2.length - s) (fun o => ∃ i, o = some i) (fun k j q => by
  simp only [Z61, Z8x];by_cases a : j < d.2.length
  ·have b : (j : Int) < (d.2.length : Int) :=om;have e := h.vals _ (J4 a);simp only [zS, b, Y1 a, Y3 a];rw [Y45 om gr c, J0];cases g : (cmpFacts d.2[j] (f.1, f.2) == 0) with
   | true => left; exact ⟨_, rfl⟩
   | false =>
    right;refine ⟨j + 1, a, om, ?_⟩;rw [J1, Y0]
  ·grind) N 0 om om
 exact this
theorem Y9j {N m : Nat} {d : Db} {f : Fact} (h : DbD m d) (c : m <= 1000) (e : f.2.length <= 1000) (a : 1048576 < N) : ∃ b, Z3n N d f = some b := by
 unfold Z3n;rw [Ys (h.small c) a, J0];cases validDb d with
 | false => exact ⟨_, rfl⟩
 | true =>
  obtain ⟨i, hi⟩ := Ya8 h c e a;rw [J5, hi, J0];exact ⟨_, rfl⟩
theorem DbD.put {m : Nat} {d : Db} (h : DbD m d) {f : Fact} (b : f.2.length <= 1000) (j : Nat) : DbD (m + 1) (d.1, d.2.take j ++ ([f] ++ d.2.drop j)) := by
 refine ⟨h.rels, ?_, ?_⟩
 ·have := h.facts;simp;omega
 ·intro g a;simp at a;rcases a with a | a | a
  ·exact h.vals g (List.mem_of_mem_take a)
  ·grind
  ·exact h.vals g (J1f a)
theorem Y55 {N m : Nat} {d : Db} {f : Fact} (h : DbD m d) (x : m <= 900) (l : f.2.length <= 1000) (e : 1048576 < N) : ∃ a b, Z3q N d f = some (a, b) /\ a.1 = d.1 /\ DbD (m + 1) a := by
 have w := h.facts;have q : DbD (m + 1) d := ⟨h.rels, Jh h.facts om, h.vals⟩;unfold Z3q Z9u;rw [Ya7 h om e, J0, Ys (h.small om) e, J0];cases validDb d with
 | false => simp_all
 | true =>
  rw [J9, J1, Y1h (Jh h.rels om) om e, J0];cases (validRels d.1 && fact1 d.1 f) with
  | false => exact ⟨d, false, rfl, rfl, q⟩
  | true =>
   obtain ⟨b, p⟩ := Y9j h om l e;rw [J9, J1, p, J0];cases b with
   | true => grind
   | false =>
    rw [J1];cases ((d.2.length : Int) == 14) with
    | true => simp_all
    | false =>
     rw [J1];have c : ∀ j : Nat, j <= d.2.length -> (grd (appOk [] f.2 8) <| grd (subOk (j : Int) (d.2.length : Int) d.2.length) <| grd (appOk [(f.1, f.2)] (d.2.drop ((j : Int)).toNat) 32) <| grd (subOk 0 (j : Int) d.2.length) <| grd (appOk [] (d.2.take ((j : Int)).toNat) 32) <| grd (appOk (d.2.take ((j : Int)).toNat) ([(f.1, f.2)] ++ (d.2.drop ((j : Int)).toNat)) 32) <| some ((d.1, ((d.2.take ((j : Int)).toNat) ++ ([(f.1, f.2)] ++ (d.2.drop ((j : Int)).toNat)))), true)) = some ((d.1, d.2.take j ++ ([f] ++ d.2.drop j)), true) := by
      intro j g;have r : subOk (j : Int) (d.2.length : Int) d.2.length = true := by simp [subOk]; omega
      have t : subOk 0 (j : Int) d.2.length = true := by simp [subOk]; omega
      rw [r, t, Ji, Y4, Y4, Y4, Y4];rfl
     have := loop (fun k (s : Nat) => Z5f N k f.1 f.2 [] [] d.1 d.2 (s : Int)) (fun s => s <= d.2.length) (fun s => d.2.length - s) (fun o => ∃ a b, o = some (a, b) /\ a.1 = d.1 /\ DbD (m + 1) a) (fun k j n => by
      simp only [Z5f, Z8k];by_cases g : j < d.2.length
      ·have i : (j : Int) < (d.2.length : Int) :=om;have u := h.vals _ (J4 g);simp only [zS, i, Y1 g, Y3 g];rw [Y45 om (by simp only; omega) e, J0];cases v : decide (cmpFacts d.2[j] (f.1, f.2) < 0) with
       | true =>
        right;refine ⟨j + 1, g, om, ?_⟩;rw [J5, Y0]
       | false =>
        left;rw [J1, c j n];exact ⟨_, _, rfl, rfl, h.put l j⟩
      ·left;have i : ¬ (j : Int) < (d.2.length : Int) :=om;simp only [zS, i];rw [c j n];exact ⟨_, _, rfl, rfl, h.put l j⟩) N 0 om om
     exact this
theorem FactD.le {f : Fact} (h : FactD f) : f.2.length <= 1000 := Jh h.2 om
def DbDraw (d : Db) : Prop := RelsD d.1 /\ DbD 20 d
theorem Y9k {c : Ctx} {l : List Rel} {v : Int} (r : RelsD l) (m : 1048576 < N) {K : Nat} {p : Int × Int} {a : List Fact} {n : Nat} (D : COk (c.1, p)) (A : DbD (20 - n) (l, a)) (C : n <= 20) (H : n < K) :
  Dr c (Z82 N K c.1 p.1 p.2 [] [] l a v (n : Int)) DbDraw := by
 have := loop (fun k (s : (Int × Int) × List Fact × Nat) => Z82 N k c.1 s.1.1 s.1.2 [] [] l s.2.1 v (s.2.2 : Int)) (fun s => COk (c.1, s.1) /\ s.2.2 <= 20 /\ DbD (20 - s.2.2) (l, s.2.1)) (fun s => s.2.2) (fun o => Dr c o DbDraw) (fun k s t => by
  obtain ⟨q, a, n⟩ := s;simp only at t ⊢;obtain ⟨h, G, i⟩ := t;simp only [Z82, Z0az];by_cases z : (n : Int) > 0
  ·right;obtain ⟨E, f, x, g, B⟩ := Y54 (N := N) (c := (c.1, q.1, q.2)) (v := v) h r m;obtain ⟨u, b, y, j, d⟩ := Y55 i om B.le m;obtain ⟨F, w⟩ := u;simp only at j;subst j;refine ⟨(E, w, n - 1), ⟨g, by simp only; omega, ⟨d.rels, Jh d.facts (by simp only; omega), d.vals⟩⟩, by simp only; omega, ?_⟩;simp only [zS, z, x, y];rw [Yd om om]
  ·left;have e : n = 0 :=om;subst e;exact Dr.ret (c := c) (p := q) h ⟨r, i⟩) K (p, a, n) gr ⟨D, C, A⟩
 exact this
theorem dbOk {c : Ctx} (h : COk c) (d : 1048576 < N) : Dr c (Z8h N c) DbDraw := by
 refine (Ya6 h).bind fun p l w g => ?_;refine (Y1j (c := (c.1, p)) w (by decide)).bind fun x v i hv => ?_;refine (Y6 (c := (c.1, x)) i).bind fun y n j m => ?_;have C := m.1;have D := m.2.1 (by decide);have t : DbD 0 ((l, []) : Db) := ⟨by simp only; rw [g.1]; decide, sm, sm⟩;obtain ⟨M, rfl⟩ : ∃ M, N = M + 1 := ⟨N - 1, om⟩;simp [Z0ak, Z0b0];have e : w64 (2 + n) = ((n.toNat + 2 : Nat) : Int) := by rw [Y5]; omega
 rw [e];have r : ((n.toNat + 2 : Nat) : Int) > 0 :=om;simp only [zS, r];refine (Y54 (c := (c.1, y)) j g d).bind fun z f k u => ?_;obtain ⟨o, b, q, s, a⟩ := Y55 t om u.le d;obtain ⟨A, B⟩ := o;subst s;simp only [q, J0];rw [Yd om om];exact Y9k (c := (c.1, z)) g d k ⟨a.rels, Jh a.facts om, a.vals⟩ om om
theorem Y7k {c : Ctx} {l : List Rel} (h : COk c) (k : RelsD l) (j : 1048576 < N) : Dr c (Z8l N c l) (fun f => f.2.length <= 4) := by
 refine (Y54 h k j).bind fun p f m g => ?_;refine (Y6 (c := (c.1, p)) m).bind fun d x a r => ?_;have o := g.1;have q := g.2;cases (x == 0) with
 | true =>
  rw [J5];refine (Y6 (c := (c.1, d)) a).bind fun e y b n => ?_;exact Dr.ret (c := (c.1, e)) b gr
 | false =>
  rw [J1];cases (x == 1) with
  | true =>
   rw [J5];simp only;rw [Y4, grd_true];exact Dr.ret (c := (c.1, d)) a (by simp; omega)
  | false =>
   rw [J1];cases (x == 2) with
   | true =>
    rw [J5];refine (Y1j (c := (c.1, d)) a (by decide)).bind fun e y b n => ?_;simp only [Y8 (i := 0) (xs := f.2) om om, grd_true, letv_eq];exact Dr.ret (c := (c.1, e)) b (by simp; omega)
   | false =>
    rw [J1];exact Dr.ret (c := (c.1, d)) a gr
theorem Y8k {c : Ctx} (h : COk c) : Dr c (Z8m N c) (fun _ => True) := by
 refine (Y6h h (by decide)).bind fun p f d i => ?_;refine (Y6 (c := (c.1, p)) d).bind fun e x a j => ?_;refine (Y6 (c := (c.1, e)) a).bind fun g y b k => ?_;exact Dr.ret (c := (c.1, g)) b trivial
theorem Y9l {c : Ctx} (h : COk c) (q : 1048576 < N) : Dr c (Z8n N c) (fun d => DbD 21 d) := by
 refine (dbOk h q).bind fun p d w u => ?_;refine (Y6 (c := (c.1, p)) w).bind fun m x b E => ?_;obtain ⟨r, o, t, k⟩ := u;have v := r.1;cases (x == 0) with
 | true =>
  rw [J5];refine (Y7k (c := (c.1, m)) b r q).bind fun j f a D => ?_;simp only;rw [Y4, grd_true];refine Dr.ret (c := (c.1, j)) a ⟨o, by simp; omega, fun g l => ?_⟩;simp at l;rcases l with l | rfl
  ·exact k g l
  ·omega
 | false =>
  rw [J1];cases (x == 1) with
  | true =>
   rw [J5];refine (Y6 (c := (c.1, m)) b).bind fun j y a e => ?_;have s := e.1;have C := e.2.1 (by decide);have B : subOk 0 y d.1.length = true := by simp [subOk]; omega
   simp [B, grd_true];exact Dr.ret (c := (c.1, j)) a ⟨by simp; omega, by simp only; omega, k⟩
  | false =>
   rw [J1];cases (x == 2) with
   | true =>
    rw [J5];refine (Y6 (c := (c.1, m)) b).bind fun j y a e => ?_;refine (Y8k (c := (c.1, j)) a).bind fun A z n F => ?_;have s := e.1;have C := e.2.1 (by decide);simp only [Y8 (i := y) (xs := d.1) s om, grd_true, letv_eq];exact Dr.ret (c := (c.1, A)) n ⟨by simp; omega, by simp only; omega, k⟩
   | false =>
    rw [J1];exact Dr.ret (c := (c.1, m)) b ⟨o, Jh t om, k⟩
def toI (l : List Nat) : List Int := l.map fun (n : Nat) => (n : Int)
theorem Y1e (l : List Nat) : (toI l).length = l.length := by simp [toI]
theorem Y21 (a b : List Nat) : toI (a ++ b) = toI a ++ toI b := by simp [toI]
theorem Y3q (S : Nat -> Nat -> Bool) (n s : Nat) : (blk S n s).length <= n := by
 exact Jh (Jl _ _) (Nat.le_of_eq Js)
theorem Y3r (S : Nat -> Nat -> Bool) (n : Nat) : (sts S n).length <= n := by
 exact Jh (Jl _ _) (Nat.le_of_eq Js)
theorem Y99 (S : Nat -> Nat -> Bool) (n : Nat) : (B S n).length <= n := by
 unfold B; rw [Jb]; exact Y3r S n
theorem Y14 {d : Db} {k : Nat} (a : k < d.2.length) : at_ (0, []) d.2 (k : Int) = factAt d k := by unfold factAt; rw [Y3 a, Y2 a]
theorem Yp {d : Db} (h : SmallDb d) {k : Nat} (a : k < d.2.length) : (factAt d k).2.length <= 1048576 := by unfold factAt; rw [Y2 a]; exact h.vals _ (J4 a)
theorem Y65 {d : Db} (h : SmallDb d) (e : validDb d = true) (m : 1048576 < N) {i : Nat} (hi : i < d.2.length) : Z8c N d (i : Int) = some (toI (blk (sameD d) d.2.length i)) := by
 have hv := Y9 e;have t := hv.few;have := loop (fun k (s : List Int × Nat) => Z5v N k (i : Int) d.1 d.2 s.1 (s.2 : Int)) (fun s => s.2 <= d.2.length /\ s.1 = toI (blk (sameD d) s.2 i)) (fun s => d.2.length - s.2) (fun o => o = some (toI (blk (sameD d) d.2.length i))) (fun k s f => by
  obtain ⟨l, j⟩ := s;obtain ⟨r, b⟩ := f;simp only at r b ⊢;by_cases c : j < d.2.length
  ·right;have g : (j : Int) < (d.2.length : Int) :=om;have p : (0 : Int) <= (i : Int) /\ (i : Int) <= (d.2.length : Int) - 1 :=om;have q : validDb (d.1, d.2) = true := e;have n : l.length <= 14 := by rw [b, Y1e]; have := Y3q (sameD d) j i; omega
   refine ⟨(toI (blk (sameD d) (j + 1) i), j + 1), ⟨c, rfl⟩, by simp only; omega, ?_⟩;simp only [zS, Z5v, Z7z, g, Ys (d := (d.1, d.2)) h m, q, l1In, Y5 (show -9223372036854775808 <= (d.2.length : Int) - 1 by omega) om, p, and_self, Y1 hi, Y1 c, Y14 hi, Y14 c, Y8i h.rels (Yp h hi) (Yp h c) m hv.rels (hv.fact i hi) (hv.fact j c), Y0 (j := j)];rw [Y1i];cases f : sameD d i j with
   | true =>
    have a : sameK d.1 (factAt d i) (factAt d j) = true := f;rw [a, J5, Y4, grd_true, Je rfl, Y21, b]; rfl
   | false =>
    have a : sameK d.1 (factAt d i) (factAt d j) = false := f;rw [a, J1, Jn sm, Jm, b]
  ·left;have : j = d.2.length :=om;subst this;have g : ¬ (d.2.length : Int) < (d.2.length : Int) :=om;simp [Z5v, Z7z, g, J1, b]) N ([], 0) (by simp only; omega) ⟨sm, by simp [blk, toI]⟩
 exact this
def blocksOf (d : Db) : List (List Int) := if validDb d then (B (sameD d) d.2.length).map toI else []
theorem Yq {d : Db} (h : SmallDb d) (f : 1048576 < N) : Z1h N d = some (blocksOf d) := by
 have z := h.facts;unfold Z1h Z0be blocksOf;cases a : validDb d with
 | false =>
  simp;obtain ⟨n, rfl⟩ : ∃ n, N = n + 1 := ⟨N - 1, om⟩;simp only [zS, Z56, Z6y, Ys (d := (d.1, d.2)) h f, show validDb (d.1, d.2) = false from a];cases decide ((0 : Int) < (d.2.length : Int)) <;> rfl
 | true =>
  simp;have hv := Y9 a;have E := hv.few;have y := runs hv;have := loop (fun k (s : List (List Int) × Nat) => Z56 N k d.1 d.2 s.1 (s.2 : Int)) (fun s => s.2 <= d.2.length /\ s.1 = (((sts (sameD d) s.2).map (blk (sameD d) d.2.length)).map toI)) (fun s => d.2.length - s.2) (fun o => o = some ((B (sameD d) d.2.length).map toI)) (fun k s C => by
   obtain ⟨i, j⟩ := s;obtain ⟨x, c⟩ := C;simp only at x c ⊢;by_cases g : j < d.2.length
   ·right;have e : (j : Int) < (d.2.length : Int) :=om;have u : validDb (d.1, d.2) = true := a;have m : i.length <= 14 := by rw [c, Jb, Jb]; have := Y3r (sameD d) j; omega
    obtain ⟨q, r, p, D, t⟩ := Y3e (y.refl j) g;have l : toI (blk (sameD d) d.2.length j) = (q : Int) :: toI r := by rw [p]; rfl
    have v : inb 0 (toI (blk (sameD d) d.2.length j)) = true := by rw [l]; exact Y1 (j := 0) sm
    have w : at_ 0 (toI (blk (sameD d) d.2.length j)) 0 = (q : Int) := by rw [l]; exact Y3 (j := 0) sm
    refine ⟨((((sts (sameD d) (j + 1)).map (blk (sameD d) d.2.length)).map toI), j + 1), ⟨g, rfl⟩, by simp only; omega, ?_⟩;simp only [zS, Z56, Z6y, e, Ys (d := (d.1, d.2)) h f, u, Y65 (d := (d.1, d.2)) h a f (show j < (d.1, d.2).2.length from g), Y0 (j := j)];rw [show sameD (d.1, d.2) = sameD d from rfl, v, grd_true, w, beqI, Yw];by_cases b : isSt (sameD d) j = true
    ·have A := t.2 b;rw [Je b, J2 (by rw [A]), J5, Y4, grd_true, Jk, Jk, <- c]; rfl
    ·grind
   ·left;have : j = d.2.length :=om;subst this;have e : ¬ (d.2.length : Int) < (d.2.length : Int) :=om;simp only [zS, Z56, Z6y, e, c];rfl) N ([], 0) (by simp only; omega) ⟨sm, by simp [sts]⟩
  exact this
theorem Y47 {d : Db} (h : SmallDb d) (p : validDb d = true) (T : 1048576 < N) : Z6m N d = some (blocksOf d) := by
 unfold blocksOf;rw [Je p]
 ·have hv := Y9 p;have hf := hv.few;have c := runs hv;have := loop (fun k (s : List (List Int) × Nat) => Z44 N k d.1 d.2 s.1 d.2 (d.2.length : Int) (s.2 : Int)) (fun s => s.2 <= d.2.length /\ s.1 = (B (sameD d) s.2).map toI) (fun s => d.2.length - s.2) (fun o => o = some ((B (sameD d) d.2.length).map toI)) (fun k s g => by
   obtain ⟨a, j⟩ := s;obtain ⟨R, l⟩ := g;simp only at R l ⊢;by_cases m : j < d.2.length
   ·right;have v : (j : Int) < (d.2.length : Int) :=om;have G : a.length <= 14 := by rw [l, Jb]; have := Y99 (sameD d) j; omega
    refine ⟨((B (sameD d) (j + 1)).map toI, j + 1), ⟨m, rfl⟩, by simp only; omega, ?_⟩;simp only [zS, Z44, Z8r, v, Y1 m, Y0 (j := j)];rw [Y5 (show -9223372036854775808 <= (a.length : Int) - 1 by omega) om];have u : isSt (sameD d) j = true -> grd (appOk a [[(j : Int)]] 24) (Z44 N k d.1 d.2 (a ++ [[(j : Int)]]) d.2 (d.2.length : Int) ((j + 1 : Nat) : Int)) = Z44 N k d.1 d.2 ((B (sameD d) (j + 1)).map toI) d.2 (d.2.length : Int) ((j + 1 : Nat) : Int) := fun z => by
     rw [Y4, grd_true, Y6w c z, Jk, <- l]; rfl
    by_cases Q : j = 0
    ·subst Q;have ho : a = [] := by rw [l]; rfl
     have Z : ¬ (a.length : Int) - 1 >= 0 := by rw [ho]; simp
     rw [J7 Z, J1];exact u (Ya.2 (fun k W => om))
    ·obtain ⟨A, t, C, a2, H, I⟩ := Y1d c j om om;obtain ⟨q, r, J, b2, K⟩ := Y3e (c.refl t) a2;have hq : q = t := K.2 H;subst hq;have b : a = ((A.map (blk (sameD d) j)).map toI) ++ [toI (blk (sameD d) j q)] := by
      rw [l]; unfold B; rw [C, Jk, Jk]; rfl
     generalize U : (A.map (blk (sameD d) j)).map toI = X at b;have Y : (a.length : Int) - 1 = (X.length : Int) :=gr;have n : X.length < a.length :=gr;have w : at_ [] a (X.length : Int) = toI (blk (sameD d) j q) := by
      rw [Y3 n];simp only [b];rw [List.getElem_append_right om];simp
     have F : toI (blk (sameD d) j q) = (q : Int) :: toI r := by rw [J]; rfl
     have O : inb 0 (toI (blk (sameD d) j q)) = true := by rw [F]; exact Y1 (j := 0) sm
     have P : at_ 0 (toI (blk (sameD d) j q)) 0 = (q : Int) := by rw [F]; exact Y3 (j := 0) sm
     have e : q < d.2.length :=om;rw [Y, J2 (show (X.length : Int) >= 0 by omega), J5, Y1 n, grd_true, w, O, grd_true, P, Y1 e, grd_true, Y14 e, Y14 m,
      Y8j (Yp h e) (Yp h m) T hv.rels (hv.fact q e) (hv.fact j m), J0]
     cases g : sameD d q j with
     | true =>
      have i : sameK d.1 (factAt d q) (factAt d j) = true := g;have y : ¬ isSt (sameD d) j = true := fun x => by
       have := Ya.1 x q a2;rw [c.symm _ _ g] at this; simp at this
      have V := Y3q (sameD d) j q;have f : growOk (X.length : Int) (X.length : Int) a = true := by unfold growOk; rw [J2 rfl, J2 (show (0 : Int) <= X.length by omega), J2 (show (X.length : Int) < (a.length : Int) by omega)]; rfl
      rw [i, J5, grd_true, grd_true, Y4 om (by rw [Y1e]; simp; omega), grd_true, grd_true, f, grd_true, letv_eq];congr 1;rw [Y6x c y m C g, Jk, U, b, Ji, List.set_append_right _ _ om, Nat.sub_self];simp [toI]
     | false =>
      have i : sameK d.1 (factAt d q) (factAt d j) = false := g;rw [i, J1];refine u (Ya.2 (fun k W => ?_));rw [J1c];intro x;have D := c.symm _ _ x;have L := c.run k (j - 1) j om om om D;have M := c.trans _ _ _ (c.symm _ _ L) D;have E := c.trans _ _ _ (I (j - 1) om om) M;rw [g] at E; simp at E
   ·left;have : j = d.2.length :=om;subst this;have v : ¬ (d.2.length : Int) < (d.2.length : Int) :=om;simp [Z44, Z8r, v, J1, l]) N ([], 0) (by simp only; have := h.facts; omega) ⟨sm, by simp [B, sts]⟩
  exact this
def sizes (d : Db) : List Nat := (blocksOf d).map List.length
theorem Y56 : ∀ (a : List Nat) (j : Nat), (a.take j).sum <= a.sum
 | [], j => sm
 | x :: a, 0 => sm
 | x :: a, j + 1 => by have := Y56 a j; simp; omega
theorem Y16 {d : Db} (a : validDb d = true) : (sizes d).sum = d.2.length /\ (∀ x ∈ sizes d, 1 <= x) /\ (sizes d).length <= 14 /\ (blocksOf d).length = (sizes d).length := by
 have hv := Y9 a;have c := runs hv;have e : sizes d = (B (sameD d) d.2.length).map List.length := by
  unfold sizes blocksOf;rw [Je a, List.map_map];apply J1k;intro x _;exact Y1e x
 refine ⟨by rw [e]; exact Y3f c _ (Jx _), ?_, ?_, by unfold sizes; simp⟩
 ·rw [e];intro x i;obtain ⟨b, f, rfl⟩ := J8.1 i;unfold B at f;obtain ⟨s, h, rfl⟩ := J8.1 f;obtain ⟨q, r, g, _⟩ := Y3e (c.refl s) (Y1v.1 h).1;rw [g]; simp
 ·rw [e, Jb];have := Y99 (sameD d) d.2.length;have := hv.few;omega
theorem Y48 : ∀ {a : List Nat} {x : Nat}, x ∈ a -> x <= a.sum
 | y :: a, x, h => by
  rw [J2e];rcases Jv.1 h with rfl | h
  ·omega
  ·have := Y48 h; omega
theorem Y7l {d : Db} (h : SmallDb d) (m : 1048576 < N) : Z4l N d = some (toI (sizes d)) := by
 unfold Z4l Z0a3;rw [Yq h m, J0];have p : (blocksOf d).length <= 14 := by
  cases a : validDb d with
  | true => have := Y16 a; omega
  | false => unfold blocksOf; rw [a]; simp
 have := loop (fun k (s : List Int × Nat) => Z49 N k s.1 (blocksOf d) (s.2 : Int)) (fun s => s.2 <= (blocksOf d).length /\ s.1 = toI ((sizes d).take s.2)) (fun s => (blocksOf d).length - s.2) (fun o => o = some (toI (sizes d))) (fun k s n => by
  obtain ⟨f, j⟩ := s;obtain ⟨l, b⟩ := n;simp only at l b ⊢;have e : (sizes d).length = (blocksOf d).length := by unfold sizes; simp
  by_cases c : j < (blocksOf d).length
  ·right;have i : (j : Int) < ((blocksOf d).length : Int) :=om;have g : f.length <= 14 := by rw [b, Y1e, J19]; omega
   refine ⟨(toI ((sizes d).take (j + 1)), j + 1), ⟨c, rfl⟩, by simp only; omega, ?_⟩;simp only [zS, Z49, Z6b, i, Y1 c, Y3 c, Y0 (j := j)];rw [Y4, grd_true, J6 om, Y21, <- b];simp [toI, sizes]
  ·left;have : j = (blocksOf d).length :=om;subst this;simp [Z49, Z6b, J1, b];rw [<- e, Jz]) N ([], 0) (by simp only; omega) ⟨sm, by simp [toI]⟩
 exact this
def repR : List (List Int) -> Nat -> List Int
 | [], _ => []
 | b :: M, r => b.getD (r % b.length) 0 :: repR M (r / b.length)
def prodL : List (List Int) -> Nat
 | [] => 1
 | b :: M => b.length * prodL M
def repOf (L : List (List Int)) (r : Nat) : List Int := (repR L.reverse r).reverse
theorem Y7m {L : List (List Int)} {r : Nat} (D : L.length <= 1000) (l : ∀ b ∈ L, b ≠ []) (v : ∀ b ∈ L, b.length <= 1000) (z : r <= 1000000000) (C : 1048576 < N) : Z54 N L (r : Int) = some (repOf L r) := by
 unfold Z54 Z0ab;rw [Y7d om, grd_true, Y5, Ji];have := loop (fun k (s : Nat × List Int × Nat) => Z4q N k L (s.1 : Int) s.2.1 ((s.2.2 : Int) - 1)) (fun s => s.1 <= 1000000000 /\ s.2.2 <= L.length /\ ∃ R, s.2.1 = List.replicate s.2.2 0 ++ R /\ (repR (L.take s.2.2).reverse s.1).reverse ++ R = repOf L r) (fun s => s.2.2) (fun o => o = some (repOf L r)) (fun k s A => by
  obtain ⟨a, m, j⟩ := s;obtain ⟨n, u, R, d, f⟩ := A;simp only at n u d f ⊢;cases j with
  | zero =>
   left;have e : ¬ (((0 : Nat) : Int) - 1 >= 0) :=om;simp only [Z4q, Z71, J7 e, J1];rw [<- f, d]; simp [repR]
  | succ j =>
   right;have c : j < L.length :=om;have q : ((j + 1 : Nat) : Int) - 1 = (j : Int) :=om;have g : 0 < (L[j]).length := Jq.2 (l _ (J4 c));have w := v _ (J4 c);have i : a % (L[j]).length < (L[j]).length := J1g _ g;have t : (a : Int).tmod ((L[j]).length : Int) = ((a % (L[j]).length : Nat) : Int) :=gr;have p : (a : Int).tdiv ((L[j]).length : Int) = ((a / (L[j]).length : Nat) : Int) :=gr;have h : a / (L[j]).length <= a := Nat.div_le_self _ _;have y : j < m.length :=gr;have B : ((L[j]).length : Int) ≠ 0 :=om;refine ⟨(a / (L[j]).length, List.replicate j 0 ++ ((L[j])[a % (L[j]).length] :: R), j), ⟨by simp only; omega, by simp only; omega, _, rfl, ?_⟩, by simp only; omega, ?_⟩
   ·rw [<- f, J6 c, List.reverse_append, List.reverse_singleton, J1r];simp only [repR, J1d, J17, J1r];rw [List.getD_eq_getElem?_getD, J15 i]; rfl
   ·simp only [zS, Z4q, Z71, q, show (j : Int) >= 0 by omega, Y1 c, Y3 c, Yc B, t, p, Y1 i, Y1 y, Y3 i, letv_eq, Ji];rw [Y5 (x := ((a / (L[j]).length : Nat) : Int)) (Int.le_trans (by decide) (Int.natCast_nonneg _)) (Int.le_trans (Int.ofNat_le.2 (Jh h n)) (by decide)), Y5 (x := (j : Int) - 1)];congr 1;rw [d, List.replicate_succ', J17, List.set_append_right _ _ sm];simp) N (r, List.replicate L.length 0, L.length) (by simp only; omega) ⟨z, Jx _, [], sm, by simp [repOf]⟩
 exact this
theorem Y7n : ∀ x : Nat, x <= 2 ^ x
 | 0 => sm
 | x + 1 => by have := Y7n x; rw [J1s]; have : 1 <= 2 ^ x := Nat.one_le_two_pow; omega
theorem Y57 : ∀ M : List (List Int), prodL M <= 2 ^ ((M.map List.length).sum)
 | [] => by simp [prodL]
 | b :: M => by
  have := Y57 M;simp only [prodL, J24, J2e, Nat.pow_add];exact Nat.mul_le_mul (Y7n _) this
theorem Y2c : ∀ A B : List (List Int), prodL (A ++ B) = prodL A * prodL B
 | [], B => by simp [prodL]
 | b :: A, B => by simp only [J1u, prodL, Y2c A B, Nat.mul_assoc]
theorem Y58 {L : List (List Int)} (q : L.length <= 1000) (h : (L.map List.length).sum <= 20) (p : 1048576 < N) : Z4p N L = some (prodL L : Int) := by
 have := loop (fun k (s : Nat × Nat) => Z3i N k (s.1 : Int) L (L.length : Int) (s.2 : Int)) (fun s => s.2 <= L.length /\ s.1 = prodL (L.take s.2)) (fun s => L.length - s.2) (fun o => o = some (prodL L : Int)) (fun k s g => by
  obtain ⟨n, j⟩ := s;obtain ⟨f, b⟩ := g;simp only at f b ⊢;by_cases a : j < L.length
  ·right;have c : (j : Int) < (L.length : Int) :=om;have d : prodL (L.take (j + 1)) = n * (L[j]).length := by
    rw [J6 a, Y2c, <- b]; simp [prodL]
   have m : prodL (L.take (j + 1)) <= 1048576 := by
    have i := Y57 (L.take (j + 1));have a2 : ((L.take (j + 1)).map List.length).sum <= 20 := by
     rw [List.map_take]; exact Jh (Y56 _ _) h
    have l : 2 ^ ((L.take (j + 1)).map List.length).sum <= 2 ^ 20 := Jt om a2;omega
   refine ⟨(prodL (L.take (j + 1)), j + 1), ⟨a, rfl⟩, by simp only; omega, ?_⟩;simp only [zS, Z3i, Z5d, c, Y1 a, Y3 a, Y0 (j := j)];have e : (n : Int) * ((L[j]).length : Int) = ((prodL (L.take (j + 1)) : Nat) : Int) := by rw [d]; simp
   rw [e, Y5]
  ·left;have : j = L.length :=om;subst this;simp [Z3i, Z5d, J1, b]) N (1, 0) (by simp only; omega) ⟨sm, by simp [prodL]⟩
 exact this
def one (p : Int -> Bool) (x : Int) : Int := if p x then 1 else 0
theorem Y2d {d : Db} (a : validDb d = true) : ∀ b ∈ blocksOf d, b ≠ [] /\ b.length <= 14 := by
 intro b f;obtain ⟨k, g, l, m⟩ := Y16 a;have e : b.length ∈ sizes d := J8.2 ⟨_, f, rfl⟩;have c := g _ e;have i := Y48 e;have j := (Y9 a).few;exact ⟨fun h => by rw [h] at c; simp at c, om⟩
theorem Y3s {d : Db} (e : validDb d = true) : ∀ b ∈ blocksOf d, ∀ x ∈ b, 0 <= x /\ x < (d.2.length : Int) := by
 intro b a x g;unfold blocksOf at a;rw [Je e] at a;obtain ⟨h, c, rfl⟩ := J8.1 a;obtain ⟨s, i, rfl⟩ := J8.1 c;obtain ⟨k, f, rfl⟩ := J8.1 g;have := Jf.1 (Jj.1 f).1;omega
theorem Y1w {c : Ctx} {n : Int} (h : COk c) : Dr c (Z26 N c n) (fun _ => True) := by
 refine (Y6 h).bind fun p x a b => ?_;exact Dr.ret (c := (c.1, p)) a trivial
theorem Y7o {N m : Nat} {c : Ctx} {d : Db} (h : COk c) (v : DbD m d) (F : m <= 900) (D : 1048576 < N) : Dr c (Z5s N c d) (fun w => w.length <= 900) := by
 have E := v.facts;refine (Y1j h (by decide)).bind fun p a x _ => ?_;have := loop (fun k (s : (Int × Int) × List Int) => Z5j N k c.1 s.1.1 s.1.2 d.1 d.2 s.2 a) (fun s => COk (c.1, s.1) /\ s.2.length <= d.2.length) (fun s => d.2.length - s.2.length) (fun o => Dr c o (fun w => w.length <= 900)) (fun k s A => by
  obtain ⟨q, w⟩ := s;obtain ⟨g, u⟩ := A;simp only at g u ⊢;simp only [Z5j, Z8o];by_cases r : (w.length : Int) < (d.2.length : Int)
  ·right;obtain ⟨C, y, e, z, G⟩ := Y6 (N := N) (c := (c.1, q.1, q.2)) (n := a) g;refine ⟨(C, w ++ [w64 (1 + y)]), ⟨z, by simp; omega⟩, by simp; omega, ?_⟩;simp [r, J5, e];rw [Y4, grd_true]
  ·left;simp only [zS, r];by_cases l : (w.length : Int) > 0
   ·simp only [zS, l];refine (Y1w (c := (c.1, q)) g).bind fun t b f _ => ?_;cases b with
    | true =>
     rw [J5];refine (Y1j (c := (c.1, t)) f (by decide)).bind fun B y j _ => ?_;simp only [Y8 (i := 0) (xs := w) om om, grd_true, letv_eq];exact Dr.ret (c := (c.1, B)) j (by simp; omega)
    | false =>
     rw [J1];exact Dr.ret (c := (c.1, t)) f om
   ·simp only [zS, l];exact Dr.ret (c := c) (p := q) g om) N (p, []) (by simp; omega) ⟨x, sm⟩
 exact this
theorem Y17 {b d : Type} {piece : b -> List d} {n : Nat} : ∀ {a : List b}, (∀ x ∈ a, (piece x).length <= n) -> (a.flatMap piece).length <= a.length * n
 | [], _ => sm
 | x :: a, h => by
  have e := h x sm;have f := Y17 (a := a) fun y c => h y (by simp [c]);rw [J2f, J13, Jy, Nat.add_mul]; omega
theorem Y1f : ∀ {a b : List Int}, a.Pairwise (· < ·) -> b.Pairwise (· < ·) -> (∀ x, x ∈ a ↔ x ∈ b) -> a = b
 | [], [], _, _, _ => rfl
 | [], y :: b, _, _, h => by have := (h y).2 sm; simp at this
 | x :: a, [], _, _, h => by have := (h x).1 sm; simp at this
 | x :: a, y :: b, ha, hb, h => by
  rw [J1a] at ha hb;have e : x = y := by
   have c := (h x).1 sm;have f := (h y).2 sm;rcases Jv.1 c with c | c
   ·exact c
   ·grind
  subst e;rw [Y1f ha.2 hb.2 fun z => ?_];have d := h z;simp at d;constructor
  ·grind
  ·grind
def uniq (s : List Int) : List Int := ((List.range s.length).filter fun j => decide (j = 0 \/ s.toArray[j]! ≠ s.toArray[j - 1]!)).map fun j => s.toArray[j]!
theorem Y1a {s : List Int} {j : Nat} (h : j < s.length) : s.toArray[j]! = s[j] :=gr
theorem Y66 {s : List Int} (h : s.Pairwise (· <= ·)) : (uniq s).Pairwise (· < ·) := by
 unfold uniq;rw [J11];refine (J28 _ J1o).imp_of_mem fun {i j} hi c d => ?_;obtain ⟨a, b⟩ := Jj.1 c;have a := Jf.1 a;rw [J3, Y1a a, Y1a (show j - 1 < s.length by omega)] at b;rw [Y1a (show i < s.length by omega), Y1a a];have f := Jo.1 h (j - 1) j om a om;have g : s[i] <= s[j - 1] := by
  by_cases e : i = j - 1
  ·grind
  ·exact Jo.1 h i (j - 1) om om om
 rcases b with b | b <;> omega
theorem Y8l {s : List Int} (x : Int) : x ∈ uniq s ↔ x ∈ s := by
 unfold uniq;rw [J8];constructor
 ·grind
 ·intro c;obtain ⟨j, a, rfl⟩ := Jg.1 c;have b : ∀ j (a : j < s.length), ∃ i, i ∈ ((List.range s.length).filter fun j => decide (j = 0 \/ s.toArray[j]! ≠ s.toArray[j - 1]!)) /\ s.toArray[i]! = s[j] := by
   intro j
   induction j with
   | zero => intro a; exact ⟨0, Jj.2 ⟨Jf.2 a, sm⟩, Y1a a⟩
   | succ j d =>
    intro a;by_cases e : s[j + 1] = s[j]
    ·grind
    ·refine ⟨j + 1, Jj.2 ⟨Jf.2 a, ?_⟩, Y1a a⟩;rw [J3, Y1a a, Nat.add_sub_cancel, Y1a (show j < s.length by omega)];exact .inr e
  exact b j a
def setOf (s : List Int) : List Int := uniq (s.mergeSort fun a b => decide (a <= b))
theorem Y59 (s : List Int) : (setOf s).Pairwise (· < ·) := by
 refine Y66 ?_;have := List.pairwise_mergeSort (le := fun a b : Int => decide (a <= b)) (fun a b c d e => by simp at *; omega) (fun a b => gr) s;exact this.imp fun h => by simpa using h
theorem Y4b {s : List Int} (x : Int) : x ∈ setOf s ↔ x ∈ s := by unfold setOf; rw [Y8l, List.mem_mergeSort]
theorem Y7p (s : List Int) : (setOf s).length <= s.length := by
 unfold setOf uniq;rw [Jb, List.length_mergeSort];have := Jl (fun j => decide (j = 0 \/ (s.mergeSort fun a b => decide (a <= b)).toArray[j]! ≠ (s.mergeSort fun a b => decide (a <= b)).toArray[j - 1]!)) (List.range (s.mergeSort fun a b => decide (a <= b)).length)
 rwa [Js, List.length_mergeSort] at this
theorem Y9m {L : List (List Int)} (p : L.length <= 1000) (q : (L.map List.length).sum <= 1000000) (n : 1048576 < N) : Z2w N L = some L.flatten := by
 have a : ∀ (L : List (List Int)) (j : Nat), ((L.take j).map List.length).sum <= (L.map List.length).sum := by
  intro L
  induction L with
  | nil => intro j; simp
  | cons b L r =>
   intro j;cases j with
   | zero => simp
   | succ j => grind
 have c : ∀ L : List (List Int), L.flatten.length = (L.map List.length).sum := fun L => List.length_flatten;have f : Z1x N N [] L (L.length : Int) 0 = some L.flatten := by
  have := loop (fun k (s : Nat) => Z1x N k (L.take s).flatten L (L.length : Int) (s : Int)) (fun s => s <= L.length) (fun s => L.length - s) (fun o => o = some L.flatten) (fun k j i => by
   simp only [Z1x, Z5k];by_cases d : j < L.length
   ·right;refine ⟨j + 1, d, om, ?_⟩;have h : (j : Int) < (L.length : Int) :=om;have t := a L (j + 1);rw [J6 d, Jk, List.sum_append] at t;simp only [J24, List.map_nil, J2e, List.sum_nil] at t;simp only [zS, h, Y1 d, Y3 d];rw [Y4 om (by rw [c]; omega), grd_true, Y0, J6 d, J1w];simp only [J1q, List.flatten_nil, Jm]
   ·grind) N 0 om om
  exact this
 have := loop (fun k (s : Nat) => Z32 N k L (((L.take s).map List.length).sum : Int) L (L.length : Int) (s : Int)) (fun s => s <= L.length) (fun s => L.length - s) (fun o => o = some L.flatten) (fun k j i => by
  simp only [Z32, Z5l];by_cases d : j < L.length
  ·right;refine ⟨j + 1, d, om, ?_⟩;have h : (j : Int) < (L.length : Int) :=om;have t := a L (j + 1);have e : ((L.take (j + 1)).map List.length).sum = ((L.take j).map List.length).sum + (L[j]).length := by
    rw [J6 d, Jk, List.sum_append];simp
   have l : w64 ((((L.take j).map List.length).sum : Int) + ((L[j]).length : Int)) = (((L.take (j + 1)).map List.length).sum : Int) := by
    rw [e, Y5];omega
   have m : ¬ ((((L.take (j + 1)).map List.length).sum : Nat) : Int) < 0 :=om;simp only [zS, h, Y1 d, Y3 d, l, J7 m, Y0 (j := j)]
  ·left;have h : ¬ (j : Int) < (L.length : Int) :=om;have e : L.take j = L := J1p om;have g : (decide ((0 : Int) <= ((L.map List.length).sum : Int)) && decide ((([] : List Int).length + (((L.map List.length).sum : Nat) : Int).toNat) * 8 <= 140737488355328)) = true := by
    rw [Jd, J3, J3, Ji];simp only [List.length_nil];omega
   simp only [zS, h, e, Z8i, g, f]) N 0 om om
 exact this
theorem Y7q {a b : List Int} (d : a.length <= 100000) (f : b.length <= 100000) (c : 1048576 < N) : Z68 N a b = some (setOf (a ++ b)) := by
 unfold Z68;rw [Y9m sm (by simp; omega) c, J0];unfold Z1d Z74;have e : [a, b].flatten = a ++ b :=sm;rw [e, J2 (by rw [J13]; omega), grd_true];rfl
def weightsIn (w : List Int) : Bool := w.all fun x => decide (1 <= x /\ x <= 9)
def validWeights (d : Db) (w : List Int) : Bool := validDb d && (decide (w.length = d.2.length) && weightsIn w)
theorem Yt {d : Db} {w : List Int} (h : SmallDb d) (f : w.length <= 1048576) (e : 1048576 < N) : Z0u N d w = some (validWeights d w) := by
 unfold Z0u Z7u;rw [Yf (n := w.length) (fun j => decide (1 <= w.getD j 0 /\ w.getD j 0 <= 9)) (some false) (some (validDb d && decide (w.length = d.2.length))) (fun k i => Z2e N k w d.1 d.2 i)
  (fun k => by
   simp only [zS, Z2e, Z4e, Jr, Ys (d := (d.1, d.2)) h e, beqI];cases hv : validDb d with
   | false => rfl
   | true => simp only [J5, Jc, J20]; exact decide_eq_decide.2 om) (fun k j a => ?_) om]
 ·unfold validWeights weightsIn;by_cases b : ∀ j, j < w.length -> decide (1 <= w.getD j 0 /\ w.getD j 0 <= 9) = true
  ·rw [Je b, (Y2x (d := (0 : Int)) (p := fun x => decide (1 <= x /\ x <= 9))).1 b, Bool.and_true]
  ·grind
 ·have c : (j : Int) < (w.length : Int) :=om;simp only [zS, Z2e, Z4e, c, Y1 a, Y3 a, l1In, Y2 a, Y0 (j := j), Y6e]
theorem Y1s {d : Db} {w : List Int} (h : SmallDb d) (g : w.length <= 1048576) (e : 1048576 < N) : Z1f N d w = some (validWeights d w) := by
 unfold Z1f;rw [Y7g h e, J0];unfold validWeights;cases validDb d with
 | false => rfl
 | true =>
  simp only [J5, Jc, beqI];by_cases f : w.length = d.2.length
  ·have b : (w.length : Int) = (d.2.length : Int) :=om;rw [J2 b, J5, J2 f, Jc];unfold Z6 Z9 Z1m;rw [Yk (d := (0 : Int)) (xs := w) (p := fun x => !decide (1 <= x /\ x <= 9)) (first (n := w.length) (fun j => !decide (1 <= w.getD j 0 /\ w.getD j 0 <= 9)) (fun k i => Z5 N k w (w.length : Int) i) (fun k => by simp [Z5, Z0p]) (fun k j a => ?_) om)]
   ·simp only [J0, weightsIn];rw [show (w.any fun x => !decide (1 <= x /\ x <= 9)) = !(w.all fun x => decide (1 <= x /\ x <= 9)) from (List.not_all_eq_any_not (l := w) (p := fun x => decide (1 <= x /\ x <= 9))).symm, Bool.not_not]
   ·have c : (j : Int) < (w.length : Int) :=om;simp only [zS, Z5, Z0p, c, Y1 a, Y3 a, Z2d, Yr, Y2 a, Y0 (j := j)];cases decide (1 <= w[j] /\ w[j] <= 9) <;> rfl
  ·grind
def validSet (n : Nat) (l : List Int) : Bool := decide (∀ j, j < l.length -> (decide (0 <= l.getD j 0 /\ l.getD j 0 <= (n : Int) - 1) && (decide (j = 0) || decide (l.getD (j - 1) 0 < l.getD j 0))) = true)
theorem Y6i {d : Db} {l : List Int} (h : SmallDb d) (p : l.length <= 1048576) (m : 1048576 < N) : Z6a N d l = some (validSet d.2.length l) := by
 have o := h.facts;unfold Z6a Z0bv;rw [Yf (n := l.length) (fun j => decide (0 <= l.getD j 0 /\ l.getD j 0 <= (d.2.length : Int) - 1) && (decide (j = 0) || decide (l.getD (j - 1) 0 < l.getD j 0))) (some false) (some true) (fun k i => Z79 N k l d.1 d.2 i)
  (fun k => by simp [Z79, Z99]) (fun k j b => ?_) om]
 ·unfold validSet;split
  ·rename_i a; rw [J2 a]
  ·rename_i a; rw [J7 a]
 ·have e : (j : Int) < (l.length : Int) :=om;simp only [zS, Z79, Z99, e, Y1 b, Y3 b, l1In, Y2 b, Y0 (j := j), Y5 (show -9223372036854775808 <= (d.2.length : Int) - 1 by omega) om];cases decide (0 <= l[j] /\ l[j] <= (d.2.length : Int) - 1) with
  | false => rfl
  | true =>
   simp only [zS, Jc];by_cases c : j = 0
   ·subst c; simp
   ·have f : (j : Int) > 0 :=om;have a : j - 1 < l.length :=om;simp only [zS, f, Yd (show 0 < j by omega) om, Y1 a, Y3 a, c, J1b, Y2 a];by_cases g : l[j - 1] < l[j]
    ·grind
    ·grind
theorem Y9n {n : Nat} {l : List Int} (m : n <= 1048576) (h : l.length <= 1048576) (g : 1048576 < N) : Z4j N l (n : Int) = some (validSet n l) := by
 unfold Z4j Z9z;rw [Yf (n := l.length) (fun j => decide (0 <= l.getD j 0 /\ l.getD j 0 <= (n : Int) - 1) && (decide (j = 0) || decide (l.getD (j - 1) 0 < l.getD j 0))) (some false) (some true) (fun k i => Z42 N k l (n : Int) l (l.length : Int) i)
  (fun k => by simp [Z42, Z67]) (fun k j b => ?_) om]
 ·unfold validSet;split
  ·simp_all
  ·simp_all
 ·have d : (j : Int) < (l.length : Int) :=om;simp only [zS, Z42, Z67, d, Y1 b, Y3 b, Yr, Y2 b, Y0 (j := j), Y5 (show -9223372036854775808 <= (n : Int) - 1 by omega) om];cases decide (0 <= l[j] /\ l[j] <= (n : Int) - 1) with
  | false => rfl
  | true =>
   simp only [zS, Jc];by_cases c : j = 0
   ·subst c; simp
   ·have e : (j : Int) > 0 :=om;have a : j - 1 < l.length :=om;simp only [zS, e, Yd (show 0 < j by omega) om, Y1 a, Y3 a, c, J1b, Y2 a];by_cases f : l[j - 1] < l[j]
    ·grind
    ·grind
theorem Y9a (N : Nat) (w l : List Int) : ∀ k n i, Z6v N k w n l (l.length : Int) i = Z1g N k w l n i
 | 0, _, _ => rfl
 | k + 1, n, i => by
  simp only [Z6v, Z9l, Z1g, Z3v, Y9a N w l k]
theorem Y67 {r : Rel} (h : validRel r = true) : 1 <= r.2.1 /\ r.2.1 <= 3 := by
 unfold validRel Z8 at h;by_cases d : r.1.size = 1
 ·have a : ∃ b, byteAt r.1 0 = some b := by
   unfold byteAt;have : (0 : Int).toNat < r.1.size :=om;exact ⟨r.1[(0 : Int).toNat], by rw [Je om, getElem?_pos]⟩
  obtain ⟨b, a⟩ := a;rw [a] at h;simp only [J0, l1In] at h;by_cases c : 1 <= r.2.1 /\ r.2.1 <= 3
  ·exact c
  ·grind
 ·grind
abbrev Atm := Int × List Int
abbrev Qry := Int × List Atm × List Int
def arity (l : List Rel) (r : Int) : Int := (l.getD r.toNat (⟨#[]⟩, 0, 0)).2.1
def termsOk (n : Nat) (a : List Int) : Bool := a.all fun t => decide (-10 <= t /\ t <= (n : Int) - 1)
def atomAt (as : List Atm) (j : Nat) : Atm := as.getD j (0, [])
def newRel (as : List Atm) (j : Nat) : Bool := !((as.take j).any fun b => decide (b.1 = (atomAt as j).1))
def atomOk (l : List Rel) (n : Nat) (as : List Atm) (j : Nat) : Bool := decide (0 <= (atomAt as j).1 /\ (atomAt as j).1 <= (l.length : Int) - 1) && (decide (((atomAt as j).2.length : Int) = arity l (atomAt as j).1) && (newRel as j && termsOk n (atomAt as j).2))
def occB (as : List Atm) (v : Int) : Bool := as.any fun a => decide (v ∈ a.2)
def allOcc (n : Nat) (as : List Atm) : Bool := decide (∀ v, v < n -> occB as (v : Int) = true)
def atomsOk (l : List Rel) (n : Nat) (as : List Atm) : Bool := decide (∀ j, j < as.length -> atomOk l n as j = true)
def validQ (l : List Rel) (q : Qry) : Bool := validRels l && (decide (0 <= q.1 /\ q.1 <= 4) && (decide (1 <= (q.2.1.length : Int) /\ (q.2.1.length : Int) <= 3) && (atomsOk l q.1.toNat q.2.1 && (allOcc q.1.toNat q.2.1 && validSet q.1.toNat q.2.2))))
theorem Y3g {l : List Rel} {r : Int} (hv : validRels l = true) (h : 0 <= r /\ r <= (l.length : Int) - 1) : 1 <= arity l r /\ arity l r <= 3 := Y67 (Y2a hv (j := r.toNat) om)
def metL (f : Nat -> Bool) : List Bool := [f 0, f 1, f 2, f 3]
theorem Y6j {f : Nat -> Bool} {v : Nat} (h : v < 4) : inb (v : Int) (metL f) = true /\ at_ false (metL f) (v : Int) = f v := by
 have a : v < (metL f).length := h;refine ⟨Y1 a, ?_⟩;rw [Y3 a]
 match v, h with
 | 0, _ => rfl
 | 1, _ => rfl
 | 2, _ => rfl
 | 3, _ => rfl
theorem Y8m {f : Nat -> Bool} {t : Nat} (h : t < 4) : (metL f).set t true = metL fun v => f v || decide (v = t) := by
 match t, h with
 | 0, _ => simp [metL]
 | 1, _ => simp [metL]
 | 2, _ => simp [metL]
 | 3, _ => simp [metL]
theorem Y22 {f g : Nat -> Bool} (h : ∀ v, f v = g v) : metL f = metL g := by
 unfold metL;rw [h 0, h 1, h 2, h 3]
theorem Y7r {N n : Nat} {l : List Rel} {as : List Atm} {fr : List Int} {j : Nat} {a : Int} {b : List Int} (z : n <= 4) (w : b.length <= 3) (y : 1048576 < N) (R : List Rel -> Int -> List Atm -> List Int -> List Bool -> Int -> Option Bool) (f : Nat -> Bool) :
  Z1q R N N l (n : Int) as fr (metL f) (j : Int) a b 0 = if termsOk n b then R l (n : Int) as fr (metL fun v => f v || decide ((v : Int) ∈ b)) (w64 ((j : Int) + 1)) else some false := by
 have := loop (fun k (q : Nat) => Z1q R N k l (n : Int) as fr (metL fun v => f v || decide ((v : Int) ∈ b.take q)) (j : Int) a b (q : Int)) (fun q => q <= b.length /\ termsOk n (b.take q) = true) (fun q => b.length - q) (fun o => o = if termsOk n b then R l (n : Int) as fr (metL fun v => f v || decide ((v : Int) ∈ b)) (w64 ((j : Int) + 1)) else some false) (fun k q u => by
  obtain ⟨s, c⟩ := u;simp only [Z1q, Z7n];by_cases d : q < b.length
  ·have r : (q : Int) < (b.length : Int) :=om;simp only [zS, r, Y1 d, Y3 d, l1In, Y5 (x := (n : Int) - 1), Y0 (j := q)];by_cases m : -10 <= b[q] /\ b[q] <= (n : Int) - 1
   ·right;have g : termsOk n (b.take (q + 1)) = true := by
     unfold termsOk at *;rw [J6 d, List.all_append, c];simp [m]
    refine ⟨q + 1, ⟨d, g⟩, om, ?_⟩;rw [J2 m, J9, J1];by_cases p : b[q] >= 0
    ·obtain ⟨t, e⟩ : ∃ t : Nat, b[q] = (t : Int) := ⟨b[q].toNat, om⟩;have i : t < 4 :=om;rw [J2 p, J5, e, (Y6j i).1, grd_true, grd_true, letv_eq, Ji, Y8m i];congr 1;refine Y22 fun v => ?_;rw [J6 d, e];have : decide ((v : Int) ∈ b.take q ++ [(t : Int)]) = (decide ((v : Int) ∈ b.take q) || decide (v = t)) :=gr;rw [this, Bool.or_assoc]
    ·rw [J7 p, J1];congr 1;refine Y22 fun v => ?_;rw [J6 d];have : decide ((v : Int) ∈ b.take q ++ [b[q]]) = decide ((v : Int) ∈ b.take q) :=gr;rw [this]
   ·left;have : termsOk n b = false := by
     rw [J1c];intro h;unfold termsOk at h;exact m (of_decide_eq_true (Jp.1 h _ (J4 d)))
    rw [J7 m, J1i, J5, this];rfl
  ·left;have : q = b.length :=om;subst this;rw [Jz] at c;simp [J1, c]) N 0 om (by simp [termsOk])
 simpa using this
theorem Y9o {N n : Nat} {l : List Rel} {as : List Atm} {fr : List Int} {a : List Bool} {j : Nat} {c : List Int} (o : as.length <= 3) (s : j < as.length) (r : 1048576 < N) (R : List Rel -> Int -> List Atm -> List Int -> List Bool -> Int -> Option Bool) :
  Z2j R N N l (n : Int) as fr a (j : Int) (atomAt as j).1 c 0 = if newRel as j then Z1q R N N l (n : Int) as fr a (j : Int) (atomAt as j).1 c 0 else some false := by
 have := Yf (n := j) (fun k => !decide ((atomAt as k).1 = (atomAt as j).1)) (some false) (Z1q R N N l (n : Int) as fr a (j : Int) (atomAt as j).1 c 0) (fun k i => Z2j R N k l (n : Int) as fr a (j : Int) (atomAt as j).1 c i) (fun k => by simp [Z2j, Z59, J1]) (fun k i hi => by
  have m : (i : Int) < (j : Int) :=om;have d : i < as.length :=om;simp only [zS, Z2j, Z59, m, Y1 d, Y3 d, Y0 (j := i), beqI];have e : atomAt as i = as[i] := Y2 d;rw [e];by_cases g : as[i].1 = (atomAt as j).1
  ·simp [g]
  ·grind) (k := N) om
 rw [this];have e : newRel as j = decide (∀ i, i < j -> (!decide ((atomAt as i).1 = (atomAt as j).1)) = true) := by
  unfold newRel;rw [Ju, J3, J21, J2g];constructor
  ·intro h i hi;have q : atomAt as i ∈ as.take j := by
    rw [show atomAt as i = as[i]' om from Y2 om];rw [Jg];exact ⟨i, by rw [J19]; omega, gr⟩
   have := h _ q;simpa using this
  ·intro h b p;obtain ⟨i, hi, rfl⟩ := Jg.1 p;have f : i < j :=gr;rw [J22];have := h i f;rw [show atomAt as i = as[i]' om from Y2 om] at this;simpa using this
 rw [e];by_cases g : ∀ i, i < j -> (!decide ((atomAt as i).1 = (atomAt as j).1)) = true
 ·grind
 ·grind
theorem Y9p {N n : Nat} {as : List Atm} {fr : List Int} {f : Nat -> Bool} (p : n <= 4) (g : fr.length <= 1048576) (o : 1048576 < N) :
  Z2l N N (n : Int) as fr (metL f) 0 = some (decide (∀ v, v < n -> f v = true) && validSet n fr) := by
 have a : Z2k N N (n : Int) as fr 0 = some (validSet n fr) := by
  rw [Yf (n := fr.length) (fun j => decide (0 <= fr.getD j 0 /\ fr.getD j 0 <= (n : Int) - 1) && (decide (j = 0) || decide (fr.getD (j - 1) 0 < fr.getD j 0))) (some false) (some true) (fun k i => Z2k N k (n : Int) as fr i)
   (fun k => by simp [Z2k, Z5a]) (fun k j b => ?_) om]
  ·unfold validSet;split
   ·simp_all
   ·simp_all
  ·have c : (j : Int) < (fr.length : Int) :=om;simp only [zS, Z2k, Z5a, c, Y1 b, Y3 b, l1In, Y2 b, Y0 (j := j), Y5 (show -9223372036854775808 <= (n : Int) - 1 by omega) om];cases decide (0 <= fr[j] /\ fr[j] <= (n : Int) - 1) with
   | false => rfl
   | true =>
    simp only [zS, Jc];by_cases d : j = 0
    ·subst d; simp
    ·have e : (j : Int) > 0 :=om;have a : j - 1 < fr.length :=om;simp only [zS, e, Yd (show 0 < j by omega) om, Y1 a, Y3 a, d, J1b, Y2 a];by_cases m : fr[j - 1] < fr[j]
     ·grind
     ·grind
 rw [Yf (n := n) f (some false) (some (validSet n fr)) (fun k i => Z2l N k (n : Int) as fr (metL f) i) (fun k => by simp [Z2l, Z5b, J1, a]) (fun k j b => ?_) om]
 ·grind
 ·have c : (j : Int) < (n : Int) :=om;obtain ⟨h, l⟩ := Y6j (f := f) (show j < 4 by omega);simp only [zS, Z2l, Z5b, c, h, l, Y0 (j := j)];cases f j <;> simp
theorem Y5a {as : List Atm} {j : Nat} (a : j < as.length) (v : Int) : occB (as.take (j + 1)) v = (occB (as.take j) v || decide (v ∈ (atomAt as j).2)) := by
 unfold occB;rw [J6 a, List.any_append, show atomAt as j = as[j] from Y2 a];simp
theorem Y7s {l : List Rel} {q : Qry} (E : l.length <= 1048576) (w : q.2.2.length <= 1048576) (f : 1048576 < N) : Z1y N l q = some (validQ l q) := by
 obtain ⟨n, as, fr⟩ := q;simp only at w;unfold Z1y Z8y validQ;rw [Y20 E f, J0, l1In, l1In];cases hv : validRels l with
 | false => rfl
 | true =>
  by_cases p : 0 <= n /\ n <= 4
  ·by_cases u : 1 <= (as.length : Int) /\ (as.length : Int) <= 3
   ·obtain ⟨n, rfl⟩ : ∃ m : Nat, n = (m : Int) := ⟨n.toNat, om⟩;simp only [zS, J2 p, J2 u, Jc, Ji];rw [show makeOk 4 1 = true from rfl, grd_true];have F : l.length <= 4 := (of_decide_eq_true hv).2;have := loop (fun k (j : Nat) => Z3f N k l (n : Int) as fr (metL fun v => occB (as.take j) (v : Int)) (j : Int)) (fun j => j <= as.length /\ ∀ i, i < j -> atomOk l n as i = true) (fun j => as.length - j) (fun o => o = some (atomsOk l n as && (allOcc n as && validSet n fr))) (fun k j G => by
     obtain ⟨D, r⟩ := G;simp only [Z3f, Z7o];by_cases b : j < as.length
     ·have A : (j : Int) < (as.length : Int) :=om;have B : atomAt as j = as[j] := Y2 b;have a : atomOk l n as j = false -> some false = some (atomsOk l n as && (allOcc n as && validSet n fr)) := fun h => by
       have : atomsOk l n as = false := by
        unfold atomsOk;rw [J1l];intro C;have := C j b;rw [h] at this;cases this
       rw [this]; rfl
      simp only [zS, A, Y1 b, Y3 b, l1In, Y5 (x := (l.length : Int) - 1), <- B];by_cases c : 0 <= (atomAt as j).1 /\ (atomAt as j).1 <= (l.length : Int) - 1
      ·obtain ⟨y, z⟩ := Y3g hv c;rw [J2 c, J9, J1, Y8 c.1 om, grd_true, bneI];rw [show (at_ (⟨#[]⟩, (0, 0)) l (atomAt as j).1).2.1 = arity l (atomAt as j).1 from rfl];by_cases d : ((atomAt as j).2.length : Int) = arity l (atomAt as j).1
       ·rw [J2 d, J9, J1, Y9o om b f];cases s : newRel as j with
        | false =>
         left;exact a (by unfold atomOk; rw [s, J1j, Jw, Jw])
        | true =>
         rw [Je rfl, Y7r om om f];cases t : termsOk n (atomAt as j).2 with
         | false =>
          left;exact a (by unfold atomOk; rw [t, Jw, Jw, Jw])
         | true =>
          right;refine ⟨j + 1, ⟨b, fun i hi => ?_⟩, om, ?_⟩
          ·by_cases e : i = j
           ·subst e;unfold atomOk;rw [J2 c, J2 d, s, t]; rfl
           ·grind
          ·rw [Je rfl, Y0];congr 1;exact Y22 fun v => (Y5a b (v : Int)).symm
       ·left;rw [J7 d, J1i, J5];exact a (by unfold atomOk; rw [J7 d, J1j, Jw])
      ·left;rw [J7 c, J1i, J5];exact a (by unfold atomOk; rw [J7 c, J1j])
     ·left;have : j = as.length :=om;subst this;have g : atomsOk l n as = true := J2 r;simp only [zS, Jr, Y9p (show n <= 4 by omega) w f, Jz, g, Jc];rfl) N 0 om ⟨om, fun i hi => om⟩
    exact this
   ·simp [p, u]
  ·simp [p]
theorem Y9q {as : List Atm} {a : Atm} (f : as.length <= 1000) (g : 1048576 < N) : Z3 N as a = some (as.any fun b => decide (b.1 = a.1)) := by
 unfold Z3 Z0a Z1r;rw [Yk (d := ((0, []) : Atm)) (xs := as) (p := fun b => decide (b.1 = a.1)) (first (n := as.length) (fun j => decide ((as.getD j (0, [])).1 = a.1)) (fun k i => Z7 N k as a (as.length : Int) i) (fun k => by simp [Z7, Z0s]) (fun k j c => ?_) om)];have e : (j : Int) < (as.length : Int) :=om;simp only [zS, Z7, Z0s, Z3g, e, Y1 c, Y3 c, Y2 c, Y0 (j := j), beqI];cases decide (as[j].1 = a.1) <;> rfl
def varsIn (a : List Int) : List Int := a.filter fun t => decide (0 <= t /\ t <= 3)
theorem Y8n {a : Atm} (h : a.2.length <= 1000) (f : 1048576 < N) : Z39 N a = some (setOf (varsIn a.2)) := by
 unfold Z39 Z8p varsIn;have := loop (fun k (q : Nat) => Z43 N k ((a.2.take q).filter fun t => decide (0 <= t /\ t <= 3)) a.2 (a.2.length : Int) (q : Int)) (fun q => q <= a.2.length) (fun q => a.2.length - q) (fun o => o = some (setOf (a.2.filter fun t => decide (0 <= t /\ t <= 3)))) (fun k q g => by
  simp only [Z43, Z75];by_cases b : q < a.2.length
  ·right;refine ⟨q + 1, b, om, ?_⟩;have e : (q : Int) < (a.2.length : Int) :=om;have c := Jl (fun t => decide (0 <= t /\ t <= 3)) (a.2.take q);rw [J19] at c;simp only [zS, e, Y1 b, Y3 b, Yr, Y0 (j := q)];rw [J6 b, J1m];by_cases d : 0 <= a.2[q] /\ a.2[q] <= 3
   ·rw [J2 d, J5, Y4, grd_true];simp [d]
   ·grind
  ·left;have : q = a.2.length :=om;subst this;have c := Jl (fun t => decide (0 <= t /\ t <= 3)) a.2;simp only [zS, Jr, Jz];rw [Y7q om sm f, J0, Jm]) N 0 om om
 simpa using this
def varsOf (as : List Atm) : List Int := ((List.range 4).filter fun (v : Nat) => occB as (v : Int)).map fun (v : Nat) => (v : Int)
theorem Y3t {as : List Atm} {x : Int} : x ∈ varsOf as ↔ (0 <= x /\ x <= 3) /\ occB as x = true := by
 unfold varsOf;rw [J8];constructor
 ·grind
 ·rintro ⟨b, a⟩
  exact ⟨x.toNat, Jj.2 ⟨Jf.2 om, by rw [show ((x.toNat : Nat) : Int) = x by omega]; exact a⟩, om⟩
theorem Y4x (as : List Atm) : (varsOf as).Pairwise (· < ·) := by
 unfold varsOf;rw [J11];exact (J28 _ J1o).imp fun h => om
theorem Y6y (as : List Atm) : (varsOf as).length <= 4 := by
 unfold varsOf;rw [Jb];have := Jl (fun v : Nat => occB as (v : Int)) (List.range 4)
 rwa [Js] at this
theorem Y68 {as : List Atm} {j : Nat} (a : j < as.length) : setOf (varsOf (as.take j) ++ setOf (varsIn (atomAt as j).2)) = varsOf (as.take (j + 1)) := by
 refine Y1f (Y59 _) (Y4x _) fun x => ?_;rw [Y4b, J29, Y4b, Y3t, Y3t, Y5a a];unfold varsIn;rw [Jj, J3, J2i, J3];constructor
 ·grind
 ·grind
theorem Y6z {n : Nat} {as : List Atm} (o : n <= 4) (d : ∀ j, j < as.length -> termsOk n (atomAt as j).2 = true) : decide (((varsOf as).length : Int) = (n : Int)) = allOcc n as := by
 have c : ∀ v : Int, occB as v = true -> v <= (n : Int) - 1 := by
  intro v hv;obtain ⟨a, l, f⟩ := J18.1 hv;obtain ⟨j, g, rfl⟩ := Jg.1 l;have := d j g;rw [show atomAt as j = as[j] from Y2 g] at this;exact (of_decide_eq_true (Jp.1 this v (of_decide_eq_true f))).2
 have e : (varsOf as).length = ((List.range n).filter fun (v : Nat) => occB as (v : Int)).length := by
  unfold varsOf;rw [Jb];have i : List.range 4 = List.range n ++ (List.range (4 - n)).map (n + ·) := by
   rw [<- List.range_add, show n + (4 - n) = 4 by omega]
  rw [i, J1m, J13];have : ((List.range (4 - n)).map (n + ·)).filter (fun v : Nat => occB as (v : Int)) = [] := by
   rw [J23];intro v hv;obtain ⟨k, _, rfl⟩ := J8.1 hv;intro h;have := c _ h;omega
  rw [this]; rfl
 rw [e];unfold allOcc;rw [decide_eq_decide];have m := Jl (fun v : Nat => occB as (v : Int)) (List.range n);rw [Js] at m;constructor
 ·intro h v hv;have b : ((List.range n).filter fun v : Nat => occB as (v : Int)).length = (List.range n).length :=gr;exact J25.1 b v (Jf.2 hv)
 ·intro h;have b : ((List.range n).filter fun v : Nat => occB as (v : Int)).length = (List.range n).length := J25.2 fun v hv => h v (Jf.1 hv);rw [b, Js]
theorem Y7t {N n : Nat} {l : List Rel} {as : List Atm} {fr f : List Int} {j : Nat} {a : Int} {c : List Int} (u : n <= 4) (g : c.length <= 3) (v : f.length <= 4) (m : 1048576 < N) (R : List Rel -> Int -> List Atm -> List Int -> List Int -> List Atm -> Int -> Int -> Option Bool) :
  Z2p R N N l (n : Int) as fr f a c as (as.length : Int) (j : Int) c (c.length : Int) 0 = if termsOk n c then R l (n : Int) as fr (setOf (f ++ setOf (varsIn c))) as (as.length : Int) (w64 ((j : Int) + 1)) else some false := by
 have hv := Y8n (N := N) (a := (a, c)) (show c.length <= 1000 by omega) m;have q : (varsIn c).length <= 3 := Jh (Jl _ _) g;have r := Y7p (varsIn c);have s := Y7q (N := N) (a := f) (b := setOf (varsIn c)) om om m;rw [Yf (n := c.length) (fun k => decide (-10 <= c.getD k 0 /\ c.getD k 0 <= (n : Int) - 1)) (some false) (R l (n : Int) as fr (setOf (f ++ setOf (varsIn c))) as (as.length : Int) (w64 ((j : Int) + 1))) (fun k i => Z2p R N k l (n : Int) as fr f a c as (as.length : Int) (j : Int) c (c.length : Int) i) (fun k => by
  simp [Z2p, Z5c, J1, hv, s]) (fun k i hi => by
  have o : (i : Int) < (c.length : Int) :=om;simp only [zS, Z2p, Z5c, o, Y1 hi, Y3 hi, Yr, Y5 (x := (n : Int) - 1), Y2 hi, Y0 (j := i)];cases decide (-10 <= c[i] /\ c[i] <= (n : Int) - 1) <;> simp) om]
 have e : termsOk n c = decide (∀ k, k < c.length -> decide (-10 <= c.getD k 0 /\ c.getD k 0 <= (n : Int) - 1) = true) := by
  unfold termsOk;rw [Ju, J3];exact (Y2x (d := (0 : Int)) (p := fun t => decide (-10 <= t /\ t <= (n : Int) - 1))).symm
 rw [e];by_cases h : ∀ k, k < c.length -> decide (-10 <= c.getD k 0 /\ c.getD k 0 <= (n : Int) - 1) = true
 ·grind
 ·grind
theorem Y7u {l : List Rel} {q : Qry} (G : l.length <= 1048576) (w : q.2.2.length <= 1048576) (p : 1048576 < N) : Z3p N l q = some (validQ l q) := by
 obtain ⟨n, as, fr⟩ := q;simp only at w;unfold Z3p Z91 validQ;rw [Y50 G p, J0, Yr, Yr];cases hv : validRels l with
 | false => rfl
 | true =>
  by_cases s : 0 <= n /\ n <= 4
  ·by_cases v : 1 <= (as.length : Int) /\ (as.length : Int) <= 3
   ·obtain ⟨n, rfl⟩ : ∃ m : Nat, n = (m : Int) := ⟨n.toNat, om⟩;simp only [zS, J2 s, J2 v, Jc, Ji];rw [Y9n om w p, J0];cases D : validSet n fr with
    | false => grind
    | true =>
     rw [J9, J1, Bool.and_true];have := loop (fun k (j : Nat) => Z3h N k l (n : Int) as fr (varsOf (as.take j)) as (as.length : Int) (j : Int)) (fun j => j <= as.length /\ ∀ i, i < j -> atomOk l n as i = true) (fun j => as.length - j) (fun o => o = some (atomsOk l n as && allOcc n as)) (fun k j H => by
      obtain ⟨F, d⟩ := H;simp only [Z3h, Z7s];by_cases c : j < as.length
      ·have B : (j : Int) < (as.length : Int) :=om;have C : atomAt as j = as[j] := Y2 c;have a : atomOk l n as j = false -> some false = some (atomsOk l n as && allOcc n as) := fun h => by
        have : atomsOk l n as = false := by
         unfold atomsOk;rw [J1l];intro E;have := E j c;rw [h] at this;cases this
        rw [this]; rfl
       simp only [zS, B, Y1 c, Y3 c, Yr, Y5 (x := (l.length : Int) - 1), <- C];by_cases f : 0 <= (atomAt as j).1 /\ (atomAt as j).1 <= (l.length : Int) - 1
       ·obtain ⟨y, z⟩ := Y3g hv f;rw [J2 f, J9, J1, Y8 f.1 om, grd_true, bneI];rw [show (at_ (⟨#[]⟩, (0, 0)) l (atomAt as j).1).2.1 = arity l (atomAt as j).1 from rfl];by_cases g : ((atomAt as j).2.length : Int) = arity l (atomAt as j).1
        ·rw [J2 g, J9, J1, Yo om om om, grd_true, Ji, Y9q (by rw [J19]; omega) p, J0];rw [show ((as.take j).any fun b => decide (b.1 = (atomAt as j).1)) = !newRel as j from by unfold newRel; rw [Bool.not_not]];cases t : newRel as j with
         | false =>
          left;exact a (by unfold atomOk; rw [t, J1j, Jw, Jw])
         | true =>
          rw [J9, J1, Y7t om om (Y6y _) p];cases u : termsOk n (atomAt as j).2 with
          | false =>
           left;exact a (by unfold atomOk; rw [u, Jw, Jw, Jw])
          | true =>
           right;refine ⟨j + 1, ⟨c, fun i hi => ?_⟩, om, ?_⟩
           ·by_cases e : i = j
            ·subst e;unfold atomOk;rw [J2 f, J2 g, t, u]; rfl
            ·exact d i om
           ·rw [Je rfl, Y0, Y68 c]
        ·left;rw [J7 g, J1i, J5];exact a (by unfold atomOk; rw [J7 g, J1j, Jw])
       ·left;rw [J7 f, J1i, J5];exact a (by unfold atomOk; rw [J7 f, J1j])
      ·left;have : j = as.length :=om;subst this;have r : atomsOk l n as = true := J2 d;have I : ∀ j, j < as.length -> termsOk n (atomAt as j).2 = true := fun j c => by
        have := d j c;unfold atomOk at this;simp at this;exact this.2.2.2
       simp only [zS, Jr, Jz, r, Jc, beqI];rw [Y6z om I]) N 0 om ⟨om, fun i hi => om⟩
     have A : varsOf (as.take 0) = [] := by unfold varsOf occB; simp
     simp [A] at this;exact this
   ·simp [s, v]
  ·simp [s]
def queryFor (d : Db) (q : Qry) : Bool := validDb d && validQ d.1 q
theorem Y7 {d : Db} {q : Qry} (h : SmallDb d) (b : q.2.2.length <= 1048576) (a : 1048576 < N) : Z2 N d q = some (queryFor d q) := by
 unfold Z2 queryFor;rw [Ys h a, J0];cases validDb d with
 | false => rfl
 | true => rw [J5, Y7s h.rels b a]; rfl
theorem Y2e {d : Db} {q : Qry} (h : SmallDb d) (b : q.2.2.length <= 1048576) (a : 1048576 < N) : Z33 N d q = some (queryFor d q) := by
 unfold Z33 queryFor;rw [Y7g h a, J0];cases validDb d with
 | false => rfl
 | true => rw [J5, Y7u h.rels b a]; rfl
theorem Yg {d R : Type} (f : Nat -> d -> Option R) (I : d -> Prop) (c : d -> Nat) (Q : Option R -> Prop) (a : ∀ k s, I s -> (∀ b, I b -> c b < c s -> Q (f k b)) -> Q (f (k + 1) s)) : ∀ (k : Nat) (s : d), c s < k -> I s -> Q (f k s)
 | 0, s, hk, hs => om
 | k + 1, s, hk, hs => a k s hs fun b e g => Yg f I c Q a k b om e
structure QD (m : Nat) (q : Qry) : Prop where
 vars : q.1 <= 101
 atoms : 1 <= q.2.1.length /\ q.2.1.length <= 100
 terms : ∀ a ∈ q.2.1, 1 <= a.2.length /\ a.2.length <= 100
 free : q.2.2.length <= m
theorem QD.mono {m n : Nat} {q : Qry} (h : QD m q) (a : m <= n) : QD n q := ⟨h.vars, h.atoms, h.terms, Jh h.free a⟩
theorem Yao {N m : Nat} {q : Qry} (h : QD m q) (g : m <= 1000) (d : 1048576 < N) : Z6q N q = some q := by
 have e := h.atoms;have f := h.free;unfold Z6q Z0b1;rw [Y4, grd_true];have := loop (fun k (s : Nat) => Z7b N k q.1 q.2.1 q.2.2 0 [] [] q.1 (q.2.1.take s) q.2.2 (s : Int)) (fun s => s <= q.2.1.length) (fun s => q.2.1.length - s) (fun o => o = some q) (fun k j i => by
  simp only [Z7b, Z9v];by_cases a : j < q.2.1.length
  ·right;refine ⟨j + 1, a, om, ?_⟩;have b : (j : Int) < (q.2.1.length : Int) :=om;have c := h.terms _ (J4 a);simp only [zS, b, Y1 a, Y3 a];rw [Y4, grd_true, Y4, grd_true, Y0, J6 a]
  ·grind) N 0 om om
 simpa using this
def Shp (L : List Nat) (x : List Atm) : Prop := x.map (fun a => a.2.length) = L
theorem Shp.len {L : List Nat} {x : List Atm} (h : Shp L x) : x.length = L.length := by rw [<- h, Jb]
theorem Shp.at {L : List Nat} {x : List Atm} (h : Shp L x) {i : Nat} (hi : i < x.length) : (x[i]).2.length = L[i]'(by rw [<- h.len]; exact hi) := by
 subst h;simp
theorem Shp.set {L : List Nat} {x : List Atm} (h : Shp L x) {i : Nat} (hi : i < x.length) (a : Int) (k : Nat) (v : Int) : Shp L (x.set i (a, (x[i]).2.set k v)) := by
 unfold Shp at h ⊢;rw [List.map_set];subst h;simp;apply List.ext_getElem
 ·simp
 ·grind
theorem Ya9 {N K : Nat} {R} {Q : Option Qry -> Prop} {a b : Int} {e : List Atm} {f g : List Int} {t : Int} {L : List Nat} {x : List Atm} {c : List Int} {i k m : Nat} (q : Shp L x) (hi : i < x.length) (u : k < (x[i]).2.length) (A : c.length <= m) (z : m <= 1000) (v : k <= 1000) (y : c.length < K)
  (p : ∀ r d, Shp L r -> d.length <= m + 1 -> Q (R a e f b r g d (i : Int) ((k + 1 : Nat) : Int))) : Q (Z4y R N K a e f b x g c (i : Int) (k : Int) t (-1) 0) := by
 have := loop (fun K (s : Int × Nat) => Z4y R N K a e f b x g c (i : Int) (k : Int) t s.1 (s.2 : Int)) (fun s => s.2 <= c.length) (fun s => c.length - s.2) Q (fun K s w => by
  obtain ⟨h, j⟩ := s;simp only at w ⊢;simp only [Z4y, Z9d];by_cases l : j < c.length
  ·right;have n : (j : Int) < (c.length : Int) :=om;simp only [zS, n, Y1 l, Y3 l];cases (c[j] == t) with
   | true => exact ⟨((j : Int), j + 1), l, by simp only; omega, by rw [J5, Y0]⟩
   | false => exact ⟨(h, j + 1), l, by simp only; omega, by rw [J1, Y0]⟩
  ·left;have n : ¬ (j : Int) < (c.length : Int) :=om;have o : appOk c [t] 8 = true := Y4;simp only [zS, n, Y1 hi, Y3 hi, Y1 u, Ji, letv_eq, o, Y0 (j := k)];cases decide (h < 0) with
   | true => rw [J5]; exact p _ _ (q.set hi _ _ _) (by simp; omega)
   | false => rw [J1]; exact p _ _ (q.set hi _ _ _) om) K (-1, 0) (by simp only; omega) sm
 exact this
theorem Yaa {N K : Nat} {R0} {Q : Option Qry -> Prop} {a b : Int} {e : List Atm} {f g : List Int} {L : List Nat} {x : List Atm} {c : List Int} {i m : Nat} (t : ∀ n ∈ L, n <= 3) (l : Shp L x) (hi : i < x.length) (B : c.length <= m) (G : m <= 800) (E : 4 < K) (F : 1048576 < N)
  (z : ∀ o d, Shp L o -> d.length <= m + 3 -> Q (R0 a e f b o g d ((i + 1 : Nat) : Int))) (A : i <= 1000) : Q (Z3z R0 N K a e f b x g c (i : Int) 0) := by
 have := Yg (fun K (s : List Atm × List Int × Nat) => Z3z R0 N K a e f b s.1 g s.2.1 (i : Int) (s.2.2 : Int)) (fun s => Shp L s.1 /\ s.2.2 <= L[i]'(by rw [<- l.len]; exact hi) /\ s.2.1.length <= m + s.2.2) (fun s => L[i]'(by rw [<- l.len]; exact hi) - s.2.2) Q (fun K s C v => by
  obtain ⟨x, c, k⟩ := s;obtain ⟨j, w, r⟩ := C;simp only at j w r ⊢;have y := t _ (J4 (show i < L.length by grind));have h : i < x.length := by rw [j.len, <- l.len]; exact hi
  have u := j.at h;simp only [Z3z, Z9e];by_cases q : k < (x[i]).2.length
  ·have p : (k : Int) < ((x[i]).2.length : Int) :=om;simp only [zS, Y1 h, Y3 h, p, Y1 q, Y3 q];cases decide ((x[i]).2[k] < 0) with
   | true =>
    rw [J5, Y0];exact v (x, c, k + 1) ⟨j, by simp only; omega, by simp only; omega⟩ gr
   | false =>
    rw [J1];exact Ya9 j h q r om om om (fun o d D H => v (o, d, k + 1) ⟨D, by simp only; omega, by simp only; omega⟩ gr)
  ·have p : ¬ (k : Int) < ((x[i]).2.length : Int) :=om;simp only [zS, Y1 h, Y3 h, p];rw [Y0];exact z x c j om) K (x, c, 0) (by have := t _ (J4 (show i < L.length by rw [<- l.len]; exact hi)); simp only; omega) ⟨l, sm, by simpa using B⟩
 exact this
theorem Y9r {q : Qry} (h : QD 0 q) (B : q.2.1.length <= 3) (C : ∀ a ∈ q.2.1, a.2.length <= 3) (k : 1048576 < N) : ∃ b, Z5w N q = some b /\ QD 0 b := by
 have t := h.atoms;unfold Z5w Z0al;rw [Yao h om k, J0];have r : ∀ n ∈ q.2.1.map (fun a => a.2.length), n <= 3 :=gr;have := Yg (fun K (s : List Atm × List Int × Nat) => Z4z N K 0 [] [] q.1 s.1 q.2.2 s.2.1 (s.2.2 : Int)) (fun s => Shp (q.2.1.map (fun a => a.2.length)) s.1 /\ s.2.2 <= q.2.1.length /\ s.2.1.length <= 3 * s.2.2) (fun s => q.2.1.length - s.2.2) (fun o => ∃ b, o = some b /\ QD 0 b) (fun K s u w => by
  obtain ⟨x, l, i⟩ := s;obtain ⟨e, p, j⟩ := u;simp only at e p j ⊢;have d := e.len;rw [Jb] at d;simp only [Z4z, Z9f];by_cases hi : i < x.length
  ·have g : (i : Int) < (x.length : Int) :=om;simp only [zS, g];exact Yaa (Q := fun o => ∃ b, o = some b /\ QD 0 b) r e hi j om om k (fun A c z D => w (A, c, i + 1) ⟨z, by simp only; omega, by simp only; omega⟩ (by simp only; omega)) om
  ·have g : ¬ (i : Int) < (x.length : Int) :=om;simp only [zS, g];refine ⟨_, rfl, ⟨by simp only; omega, by simp only; omega, ?_, h.free⟩⟩;intro a v;have : a.2.length ∈ q.2.1.map (fun a => a.2.length) := by rw [<- e]; exact List.mem_map_of_mem (f := fun a : Atm => a.2.length) v
   obtain ⟨m, k1, y⟩ := J8.1 this;rw [<- y];exact h.terms m k1) N (q.2.1, [], 0) (by simp only; omega) ⟨rfl, sm, sm⟩
 exact this
def AtsD (n : Nat) (as : List Atm) : Prop := as.length = n /\ ∀ a ∈ as, 1 <= a.2.length /\ a.2.length <= 3
theorem Yab {N K n : Nat} {R0} {Q : Option (Ctx × Qry) -> Prop} {c : Ctx} {as : List Atm} {vars d r : Int} {i m : Nat} (B : COk c) (j : AtsD i as) (hi : i <= 10) (E : 1 <= m /\ m <= 3) (D : 4 < K)
  (z : ∀ p g, COk (c.1, p) -> AtsD (i + 1) g -> Q (R0 c.1 p.1 p.2 0 [] [] 0 g [] (n : Int) vars d ((i + 1 : Nat) : Int))) : Q (Z50 R0 N K c.1 c.2.1 c.2.2 0 [] [] 0 as [] (n : Int) vars d (i : Int) r [] (m : Int)) := by
 have := Yg (fun K (s : (Int × Int) × List Int × Nat) => Z50 R0 N K c.1 s.1.1 s.1.2 0 [] [] 0 as [] (n : Int) vars d (i : Int) r s.2.1 (s.2.2 : Int)) (fun s => COk (c.1, s.1) /\ s.2.1.length + s.2.2 = m) (fun s => s.2.2) Q (fun K s C v => by
  obtain ⟨p, a2, k⟩ := s;obtain ⟨q, x⟩ := C;simp only at q x ⊢;simp only [Z50, Z9g];by_cases u : (k : Int) > 0
  ·obtain ⟨w, b, e, l, _⟩ := Y1w (N := N) (c := (c.1, p.1, p.2)) (n := 12) q;simp only [zS, u, e];cases b with
   | true =>
    obtain ⟨t, y, h, f, _⟩ := Y6 (N := N) (c := (c.1, w)) (n := 2) l;simp only at h;simp only [zS, h];rw [Y4, grd_true, Yd om om];exact v (t, a2 ++ [w64 (-1 - y)], k - 1) ⟨f, by simp; omega⟩ gr
   | false =>
    obtain ⟨t, y, h, f, _⟩ := Y6 (N := N) (c := (c.1, w)) (n := vars) l;simp only at h;simp only [zS, h];rw [Y4, grd_true, Yd om om];exact v (t, a2 ++ [y], k - 1) ⟨f, by simp; omega⟩ gr
  ·simp only [zS, u];have A := j.1;rw [Y4, grd_true, Y0];refine z p _ q ⟨by simp [A], fun a o => ?_⟩;simp at o;rcases o with o | rfl
   ·exact j.2 a o
   ·grind) K (c.2, [], m) (by simp only; omega) ⟨B, sm⟩
 exact this
theorem Y9s {c : Ctx} (h : COk c) (y : 1048576 < N) : Dr c (Z78 N c) (QD 0) := by
 refine (Y6 h).bind fun p n z H => ?_;refine (Y6 (c := (c.1, p)) z).bind fun D v l hv => ?_;refine (Y6 (c := (c.1, D)) l).bind fun E fr q G => ?_;obtain ⟨n, rfl⟩ : ∃ k : Nat, n = k := ⟨n.toNat, om⟩;obtain ⟨fr, rfl⟩ : ∃ k : Nat, fr = k := ⟨fr.toNat, om⟩;rw [show w64 (1 + (n : Int)) = ((n + 1 : Nat) : Int) by rw [Y5]; omega];have := Yg (fun K (s : (Int × Int) × List Atm × Nat) => Z51 N K c.1 s.1.1 s.1.2 0 [] [] 0 s.2.1 [] ((n + 1 : Nat) : Int) (w64 (1 + v)) (fr : Int) (s.2.2 : Int)) (fun s => COk (c.1, s.1) /\ AtsD s.2.2 s.2.1 /\ s.2.2 <= n + 1) (fun s => n + 1 - s.2.2) (fun o => Dr c o (QD 0)) (fun K s A B => by
  obtain ⟨p, as, i⟩ := s;obtain ⟨j, b, w⟩ := A;simp only at j b w ⊢;simp only [Z51, Z9h];by_cases hi : (i : Int) < ((n + 1 : Nat) : Int)
  ·have f : w64 ((fr : Int) + (i : Int)) = ((fr + i : Nat) : Int) := by rw [Y5]; omega
   have g : ((fr + i : Nat) : Int).tmod 4 = (((fr + i) % 4 : Nat) : Int) := rfl;have t : (((fr + i) % 4 : Nat) : Int).tdiv 3 = (((fr + i) % 4 / 3 : Nat) : Int) := rfl;have u : w64 (2 + w64 (((fr + i) % 4 / 3 : Nat) : Int)) = ((2 + (fr + i) % 4 / 3 : Nat) : Int) := by
    rw [Y5 (x := (((fr + i) % 4 / 3 : Nat) : Int)), Y5]; omega
   simp only [zS, hi, Yc (show (4 : Int) ≠ 0 by decide), Yc (show (3 : Int) ≠ 0 by decide), f, g, t, u];exact Yab (Q := fun o => Dr c o (QD 0)) (c := (c.1, p)) (m := 2 + (fr + i) % 4 / 3) j b om om om (fun p' d k1 C => B (p', d, i + 1) ⟨k1, C, by simp only; omega⟩ gr)
  ·have e : i = n + 1 :=om;subst e;have F : QD 0 ((0, as, []) : Qry) := ⟨sm, by simp only; have := b.1; omega, fun a r => by have := b.2 a r; omega, sm⟩;obtain ⟨I, f, g⟩ := Y9r (N := N) F (by simp only; have := b.1; omega) (fun a r => (b.2 a r).2) y;simp [hi, J1, f];exact Dr.ret (c := c) (p := p) j g) N (E, [], 0) (by simp only; omega) ⟨q, ⟨rfl, sm⟩, sm⟩
 exact this
def qdB (q : Qry) : Bool := decide (q.1 <= 101) && (decide (1 <= q.2.1.length /\ q.2.1.length <= 100) && ((q.2.1.all fun a => decide (1 <= a.2.length /\ a.2.length <= 100)) && decide (q.2.2.length <= 0)))
theorem Y5b {q : Qry} (h : qdB q = true) : QD 0 q := by
 simp only [qdB, Jd, J3, Jp] at h;exact ⟨h.1, h.2.1, h.2.2.1, h.2.2.2⟩
def okP (o : Option (Qry × Bool)) : Bool := match o with
 | some (q, b) => !b || qdB q
 | none => false
def okT (o : Option (Qry × Bool)) : Bool := match o with
 | some (q, b) => b && qdB q
 | none => false
theorem Y8o {o : Option (Qry × Bool)} (h : okP o = true) : ∃ q b, o = some (q, b) /\ (b = true -> QD 0 q) := by
 unfold okP at h;split at h
 ·rename_i q b;refine ⟨q, b, rfl, fun a => Y5b ?_⟩;subst a;simpa using h
 ·simp at h
theorem Y8p {o : Option (Qry × Bool)} (h : okT o = true) : ∃ q, o = some (q, true) /\ QD 0 q := by
 unfold okT at h;split at h
 ·rename_i q b;simp at h;obtain ⟨rfl, a⟩ := h;exact ⟨q, rfl, Y5b a⟩
 ·simp at h
def knownS : List ByteArray := [⟨#[63, 114, 120, 124, 121, 32, 115, 121, 124, 122]⟩, ⟨#[63, 114, 120, 124, 121, 32, 115, 121, 124, 120]⟩, ⟨#[63, 114, 120, 124, 121, 32, 115, 122, 124, 121]⟩, ⟨#[63, 114, 120, 124, 121, 32, 115, 120, 124, 122]⟩, ⟨#[63, 114, 120, 124, 49]⟩, ⟨#[63, 114, 120, 124, 120]⟩, ⟨#[63, 114, 120, 124, 121, 32, 115, 121, 124, 49]⟩, ⟨#[63, 114, 120, 124, 121, 32, 115, 121, 124, 122, 32, 114]⟩, ⟨#[63, 114, 120, 124, 121]⟩, ⟨#[63, 114, 120, 124, 122, 32, 115, 121, 124, 122]⟩]
theorem Y7v (M : Nat) : ((([(0, 1), (0, 2), (1, 1), (1, 2), (2, 1), (2, 2)] : List (Int × Int)).all fun z => okT (Z28 (M + 60) (rels4 z.1 z.2) ⟨#[63, 114, 120, 124, 121, 32, 115, 121, 124, 122]⟩) && knownS.all fun s => okP (Z28 (M + 60) (rels4 z.1 z.2) s))) = true := by
 kernel_rfl
theorem Y8q {l : List Rel} (c : RelsD l) (f : 1048576 < N) : (∃ q, Z28 N l ⟨#[63, 114, 120, 124, 121, 32, 115, 121, 124, 122]⟩ = some (q, true) /\ QD 0 q) /\ ∀ s ∈ knownS, ∃ q b, Z28 N l s = some (q, b) /\ (b = true -> QD 0 q) := by
 obtain ⟨_, _, x, y, g, i, rfl⟩ := c;obtain ⟨M, rfl⟩ : ∃ M, N = M + 60 := ⟨N - 60, om⟩;have h := Y7v M;rw [Jp] at h;have d : ((x, y) : Int × Int) ∈ ([(0, 1), (0, 2), (1, 1), (1, 2), (2, 1), (2, 2)] : List (Int × Int)) :=gr;have a := h _ d;simp at a;exact ⟨Y8p a.1, fun s e => Y8o (a.2 s e)⟩
theorem Y9t {c : Ctx} {l : List Rel} (h : COk c) (j : RelsD l) (g : 1048576 < N) : Dr c (Z5x N c l) (QD 0) := by
 obtain ⟨⟨n, d, f⟩, i⟩ := Y8q j g;refine (Y6h h (by decide)).bind fun p s a m => ?_;obtain ⟨q, b, e, k⟩ := i s m;simp only [e, J0];cases b with
 | true =>
  rw [J9, J1];exact Dr.ret (c := c) a (k rfl)
 | false =>
  simp [J5, d];exact Dr.ret (c := c) a f
theorem Y7w {c : Ctx} {q : Qry} (h : COk c) (d : QD 0 q) (t : 1048576 < N) : Dr c (Z5r N N c.1 c.2.1 c.2.2 0 [] [] q.1 q.2.1 q.2.2 0) (QD 101) := by
 have hv := d.vars;have m := d.free;have := Yg (fun K (s : (Int × Int) × List Int × Nat) => Z5r N K c.1 s.1.1 s.1.2 0 [] [] q.1 q.2.1 s.2.1 (s.2.2 : Int)) (fun s => COk (c.1, s.1) /\ s.2.1.length <= s.2.2 /\ s.2.2 <= 101) (fun s => 101 - s.2.2) (fun o => Dr c o (QD 101)) (fun K s r i => by
  obtain ⟨p, fr, v⟩ := s;obtain ⟨f, k, l⟩ := r;simp only at f k l ⊢;simp [Z5r, Z9y];by_cases g : (v : Int) < q.1
  ·obtain ⟨j, b, e, a, _⟩ := Y1w (N := N) (c := (c.1, p.1, p.2)) (n := 3) f;simp [g, J5, e];cases b with
   | true =>
    rw [J5, Y4, grd_true, Y0];exact i (j, fr ++ [(v : Int)], v + 1) ⟨a, by simp; omega, by simp only; omega⟩ gr
   | false =>
    rw [J1, Y0];exact i (j, fr, v + 1) ⟨a, by simp only; omega, by simp only; omega⟩ gr
  ·simp [g, J1];exact Dr.ret (c := c) (p := p) f ⟨hv, d.atoms, d.terms, by simp only; omega⟩) N (c.2, q.2.2, 0) (by simp only; omega) ⟨h, by simpa using m, sm⟩
 exact this
theorem Y9b {c : Ctx} {l : List Rel} (h : COk c) (n : RelsD l) (f : 1048576 < N) : Dr c (Z5h N c l) (QD 101) := by
 refine (Y9s h f).bind fun p q o k => ?_;refine (Y1w (c := (c.1, p)) o).bind fun m b d _ => ?_;cases b with
 | true =>
  rw [J5];refine (Y9t (c := (c.1, m)) d n f).bind fun r s i e => ?_;refine (Y1w (c := (c.1, r)) i).bind fun j g a _ => ?_;cases g with
  | true => rw [J5]; exact Y7w (c := (c.1, j)) a e f
  | false => rw [J1]; exact Dr.ret (c := c) a (e.mono om)
 | false =>
  rw [J1];refine (Y1w (c := (c.1, m)) d).bind fun j g a _ => ?_;cases g with
  | true => rw [J5]; exact Y7w (c := (c.1, j)) a k f
  | false => rw [J1]; exact Dr.ret (c := c) a (k.mono om)
theorem anyQ {c : Ctx} {l : List Rel} (h : COk c) (o : RelsD l) (n : 1048576 < N) : Dr c (Z7p N c l) (fun q => q.2.2.length <= 200) := by
 refine (Y9b h o n).bind fun p q r e => ?_;have s := e.atoms;have t := e.free;refine (Y6 (c := (c.1, p)) r).bind fun d x b v => ?_;cases (x == 0) with
 | true =>
  rw [J5];refine (Y1j (c := (c.1, d)) b sm).bind fun g y a f => ?_;exact Dr.ret (c := c) a gr
 | false =>
  rw [J1];cases (x == 1) with
  | true =>
   rw [J5];refine (Y6 (c := (c.1, d)) b).bind fun g y a f => ?_;simp only;rw [Y4, grd_true];exact Dr.ret (c := c) a (by simp only; omega)
  | false =>
   rw [J1];cases (x == 2) with
   | true =>
    have m : 0 < q.2.1.length :=om;have u := e.terms _ (J4 m);have j : inb 0 q.2.1 = true := Y8 om om;have k : at_ ((0, []) : Atm) q.2.1 0 = q.2.1[0] := Ym om om;simp [J5, j, grd_true, k];refine (Y1j (c := (c.1, d)) b (by decide)).bind fun g y a f => ?_;simp only [Y8 (i := 0) (xs := (q.2.1[0]).2) om om, grd_true, letv_eq];exact Dr.ret (c := c) a (by simp only; omega)
   | false =>
    rw [J1];cases (x == 3) with
    | true =>
     rw [J5];refine (Y6 (c := (c.1, d)) b).bind fun g y a f => ?_;simp only;rw [Y4, grd_true];exact Dr.ret (c := c) a (by simp; omega)
    | false =>
     rw [J1];exact Dr.ret (c := c) b (by simp only; omega)
theorem Yac {code : List Int} (t : code.length <= 1048576) (e : 1048576 < N) : ∃ c d q, Z5i N code = some (c, d, q) /\ COk c /\ DbD 21 d /\ q.2.2.length <= 200 := by
 obtain ⟨c, r, h⟩ := Yam (N := N) t e;obtain ⟨p, d, s, u, f⟩ := dbOk h e;obtain ⟨y, q, l, k, v⟩ := Y9b (N := N) (c := (c.1, p)) u f.1 e;obtain ⟨o, x, m, g, _⟩ := Y6 (N := N) (c := (c.1, y)) (n := 20) k;have B := v.free;have i : DbD 21 d := ⟨f.2.rels, Jh f.2.facts om, f.2.vals⟩;unfold Z5i;simp only at l m;simp only [r, J0, s, l, m];cases (x == 0) with
 | true =>
  obtain ⟨z, A, b, a, j⟩ := Y9l (N := N) (c := (c.1, o)) g e;simp only at b;simp only [zS, b];exact ⟨_, _, _, rfl, a, j, om⟩
 | false =>
  rw [J1];cases (x == 1) with
  | true =>
   obtain ⟨z, C, b, a, w⟩ := anyQ (N := N) (c := (c.1, o)) g f.1 e;simp only at b;simp only [zS, b];exact ⟨_, _, _, rfl, a, i, om⟩
  | false => grind
theorem Y8r {code : List Int} (h : code.length <= 1048576) (b : 1048576 < N) : ∃ d w q, Z2m N code = some (d, w, q) /\ DbD 21 d /\ w.length <= 900 /\ q.2.2.length <= 200 := by
 obtain ⟨c, d, q, f, a, e, i⟩ := Yac (N := N) h b;obtain ⟨p, w, g, _, j⟩ := Y7o (N := N) a e om b;unfold Z2m;simp only [f, J0, g];exact ⟨d, w, q, rfl, e, j, i⟩
abbrev Con := Int × Int × Int × Int × Int × Int × Int
def arOf (d : Db) (r : Int) : Int := (d.1.getD r.toNat (⟨#[]⟩, 0, 0)).2.1
def inR (x a b : Int) : Bool := decide (a <= x /\ x <= b)
def conOk (d : Db) (x : Con) : Bool := inR x.1 0 ((d.1.length : Int) - 1) && (inR x.2.1 0 ((d.1.length : Int) - 1) && (inR x.2.2.1 0 (arOf d x.1 - 1) && (inR x.2.2.2.2.1 0 (arOf d x.1 - 1) && (inR x.2.2.2.1 0 (arOf d x.2.1 - 1) && (inR x.2.2.2.2.2.1 0 (arOf d x.2.1 - 1) && inR x.2.2.2.2.2.2 1 2)))))
def viol (d : Db) (x : Con) (i k : Nat) : Bool := conOk d x && (decide ((factAt d i).1 = x.1) && (decide ((factAt d k).1 = x.2.1) && (decide (at_ 0 (factAt d i).2 x.2.2.1 = at_ 0 (factAt d k).2 x.2.2.2.1) &&
 (if x.2.2.2.2.2.2 = 1 then decide (at_ 0 (factAt d i).2 x.2.2.2.2.1 = at_ 0 (factAt d k).2 x.2.2.2.2.2.1) else decide (at_ 0 (factAt d i).2 x.2.2.2.2.1 < at_ 0 (factAt d k).2 x.2.2.2.2.2.1)))))
def vany (d : Db) (l : List Con) (i k : Nat) : Bool := l.any fun x => viol d x i k || viol d x k i
def edge (d : Db) (l : List Con) (i k : Nat) : Bool := sameD d i k || vany d l i k
def edgeP (d : Db) (l : List Con) (i k : Nat) : List (Int × Int) := if edge d l i k then [((i : Int), (k : Int))] else []
def edgeR (d : Db) (l : List Con) (i : Nat) : List (Int × Int) := (List.range' (i + 1) (d.2.length - (i + 1))).flatMap (edgeP d l i)
def edgesOf (d : Db) (l : List Con) : List (Int × Int) := (List.range d.2.length).flatMap (edgeR d l)
theorem Y5c (s : List Int) (v : Int) : (s.any fun x => decide (v = x)) = decide (v ∈ s) :=gr
theorem Y9u {s : List Int} {v : Int} (e : s.length <= 1048576) (c : 1048576 < N) : Z1i N s v = some (decide (v ∈ s)) := by
 unfold Z1i Z35 Z77;rw [Yk (d := (0 : Int)) (xs := s) (p := fun x => decide (v = x)) (first (n := s.length) (fun j => decide (v = s.getD j 0)) (fun k i => Z23 N k s v (s.length : Int) i) (fun k => by simp [Z23, Z3y]) (fun k j a => ?_) om), Y5c];have b : (j : Int) < (s.length : Int) :=om;simp only [zS, Z23, Z3y, b, Y1 a, Y3 a, Y2 a, Y0 (j := j), beqI];cases decide (v = s[j]) <;> rfl
theorem Y6k {s : List Int} {v : Int} (e : s.length <= 1048576) (d : 1048576 < N) : Z6c N s v = some (decide (v ∈ s)) := by
 unfold Z6c Z0bw;rw [Yf (n := s.length) (fun j => !decide (s.getD j 0 = v)) (some true) (some false) (fun k i => Z7a N k s v i) (fun k => by simp [Z7a, Z9a]) (fun k j a => ?_) om]
 ·by_cases h : v ∈ s
  ·rw [J2 h];obtain ⟨j, a, rfl⟩ := Jg.1 h;rw [Jn (fun c => gr)]
  ·grind
 ·have b : (j : Int) < (s.length : Int) :=om;simp only [zS, Z7a, Z9a, b, Y1 a, Y3 a, Y2 a, Y0 (j := j), beqI];cases decide (s[j] = v) <;> simp
structure Good (n : Int) (c : List Int) : Prop where
 lit : ∀ x ∈ c, x ≠ 0 /\ -n <= x /\ x <= n
 one : c.Pairwise fun x y => x ≠ y /\ x ≠ -y
theorem Y5d : ∀ (n : Nat) (l : List Nat), l.Nodup -> (∀ x ∈ l, 1 <= x /\ x <= n) -> l.length <= n
 | 0, l, _, h => by
  cases l with
  | nil => simp
  | cons x l => have := h x sm; omega
 | n + 1, l, hn, h => by
  have := Y5d n (l.erase (n + 1)) (hn.erase _) (fun x a => gr);rw [List.length_erase] at this;split at this <;> omega
theorem Good.few {n : Int} {c : List Int} (f : 0 <= n) (h : Good n c) : (c.length : Int) <= n := by
 have := Y5d n.toNat (c.map Int.natAbs) (by
  unfold List.Nodup;rw [J11];exact h.one.imp (fun {x y} b e => om)) (fun x a => by
  obtain ⟨y, d, rfl⟩ := J8.1 a;have := h.lit y d;omega)
 rw [Jb] at this;omega
def ordE (E : List (Int × Int)) (j : Nat) : Bool := decide (j = 0) || (let a := E.getD j (0, 0); let b := E.getD (j - 1) (0, 0); decide (b.1 < a.1) || (decide (b.1 = a.1) && decide (b.2 < a.2)))
def validE (E : List (Int × Int)) : Bool := decide (∀ j, j < E.length -> ordE E j = true)
def indep (E : List (Int × Int)) (s : List Int) : Bool := E.all fun e => !(decide (e.1 ∈ s) && decide (e.2 ∈ s))
def fitsE (E : List (Int × Int)) (s : List Int) (x : Int) : Bool := !decide (x ∈ s) && indep E (s ++ [x])
def maxI (n : Nat) (E : List (Int × Int)) (s : List Int) : Bool := validE E && (validSet n s && (indep E s && decide (∀ x, x < n -> (!fitsE E s x) = true)))
theorem Y2y {s : List Int} (a : s.length <= 1000) : Z1z N s = some s := by
 unfold Z1z;rw [J2 om, grd_true]
def walk (n : Nat) (E : List (Int × Int)) : Nat -> List Int -> Nat -> List (List Int)
 | 0, s, x => if maxI n E s then [s] else []
 | m + 1, s, x => (if indep E (s ++ [(x : Int)]) then walk n E m (s ++ [(x : Int)]) (x + 1) else []) ++ walk n E m s (x + 1)
def maxSets (n : Nat) (E : List (Int × Int)) : List (List Int) := if validE E then walk n E n [] 0 else []
def subsets (d : Db) (l : List Con) : List (List Int) := if validDb d then maxSets d.2.length (edgesOf d l) else []
theorem Y5e {S : Nat -> Nat -> Bool} {N : Nat} (a : Runs S N) : ∀ n, n <= N -> (B S n).flatten = List.range n
 | 0, _ => by simp [B, sts]
 | n + 1, hn => by
  by_cases h : isSt S n = true
  ·rw [Y6w a h, J1w, Y5e a n om, J16]; simp
  ·have d : 0 < n := by
    apply J1e;intro g;have : n = 0 :=om;subst this;apply h;rw [Ya]; intro k l; omega
   obtain ⟨A, t, e, i, j, c⟩ := Y1d a (n + 1) om hn;have b : sts S n = A ++ [t] := by rw [Yw, Jn h, Jm] at e; exact e
   have f := Y5e a n om;rw [Y6x a h om b (c n om om), J16, <- f];unfold B;rw [b];simp
def mx (w : List Int) (m x : Int) : Int := if at_ 0 w x > at_ 0 w m then x else m
def bestB (w b : List Int) : Int := b.foldl (mx w) (at_ 0 b 0)
theorem Y33 : ∀ L : List (List Nat), (L.map toI).flatten = toI L.flatten
 | [] => rfl
 | b :: L => by rw [J24, J1q, J1q, Y21, Y33 L]
theorem Y1t {d : Db} (a : validDb d = true) : (blocksOf d).flatten = toI (List.range d.2.length) := by
 unfold blocksOf;rw [Je a, Y33, Y5e (runs (Y9 a)) _ (Jx _)]
theorem Y5f (n : Nat) : (toI (List.range n)).Pairwise (· < ·) := by
 unfold toI;rw [J11];exact List.Pairwise.imp (fun h => om) J1o
def sumN (f : Nat -> Int) : Nat -> Int
 | 0 => 0
 | n + 1 => sumN f n + f n
theorem Y3h (f : Nat -> Int) (m : Nat) : ∀ n, sumN f (m + n) = sumN f m + sumN (fun k => f (m + k)) n
 | 0 => by simp [sumN]
 | n + 1 => by
  have := Y3h f m n;show sumN f (m + n) + f (m + n) = sumN f m + (sumN (fun k => f (m + k)) n + f (m + n));omega
theorem Yi {f g : Nat -> Int} : ∀ {n : Nat}, (∀ k, k < n -> f k = g k) -> sumN f n = sumN g n
 | 0, _ => rfl
 | n + 1, h => by
  simp only [sumN, Yi (n := n) fun k a => h k om, h n om]
theorem Y5g (f : Nat -> Int) (c : Int) : ∀ n, sumN (fun k => f k * c) n = sumN f n * c
 | 0 => by simp [sumN]
 | n + 1 => by simp only [sumN, Y5g f c n, Int.add_mul]
theorem Y4c (f g : Nat -> Int) {a : Nat} (b : 0 < a) : ∀ Q, sumN (fun k => f (k % a) * g (k / a)) (a * Q) = sumN f a * sumN g Q
 | 0 => by simp [sumN]
 | Q + 1 => by
  rw [Nat.mul_succ, Y3h, Y4c f g b Q];have e : sumN (fun k => f ((a * Q + k) % a) * g ((a * Q + k) / a)) a = sumN f a * g Q := by
   rw [<- Y5g];refine Yi fun k c => ?_;rw [Nat.mul_add_mod, Nat.mod_eq_of_lt c, Nat.mul_add_div b, Nat.div_eq_of_lt c, Nat.add_zero]
  rw [e];simp only [sumN, Int.mul_add]
theorem Y2f (f : Nat -> Int) : ∀ n, sumN f (n + 1) = f 0 + sumN (fun k => f (k + 1)) n
 | 0 => by simp [sumN]
 | n + 1 => by
  have := Y2f f n;simp [sumN] at this ⊢;omega
def pw (w : List Int) : List Int -> Int
 | [] => 1
 | x :: l => at_ 0 w x * pw w l
def sw (w : List Int) : List Int -> Int
 | [] => 0
 | x :: l => at_ 0 w x + sw w l
def tw (w : List Int) : List (List Int) -> Int
 | [] => 1
 | b :: L => sw w b * tw w L
def sizeP : List (List Int) -> Nat
 | [] => 1
 | b :: L => b.length * sizeP L
def nth : List (List Int) -> Nat -> List Int
 | [], _ => []
 | c :: C, k => c.getD (k % c.length) 0 :: nth C (k / c.length)
theorem Y7x (w : List Int) : ∀ c : List Int, sumN (fun r => at_ 0 w (c.getD r 0)) c.length = sw w c
 | [] => rfl
 | x :: c => by
  rw [Jy, Y2f];simp only [List.getD_cons_zero, List.getD_cons_succ, sw, Y7x w c]
theorem Y34 (w : List Int) : ∀ C : List (List Int), (∀ c ∈ C, c ≠ []) -> sumN (fun k => pw w (nth C k)) (sizeP C) = tw w C
 | [], _ => by simp [sumN, sizeP, nth, pw, tw]
 | c :: C, h => by
  have a : 0 < c.length := Jq.2 (h c sm);have d := Y34 w C fun x b => h x (by simp [b]);simp only [nth, pw, sizeP, tw];rw [Y4c (fun r => at_ 0 w (c.getD r 0)) (fun q => pw w (nth C q)) a, Y7x, d]
theorem Y2g (w : List Int) : ∀ a b : List Int, pw w (a ++ b) = pw w a * pw w b
 | [], b => by simp [pw]
 | x :: a, b => by simp only [J1u, pw, Y2g w a b, Int.mul_assoc]
theorem Y23 (w : List Int) : ∀ a : List Int, pw w a.reverse = pw w a
 | [] => rfl
 | x :: a => by
  rw [J1d, Y2g, Y23 w a];simp [pw];exact J1t _ _
theorem Y4d (w : List Int) : ∀ a b : List (List Int), tw w (a ++ b) = tw w a * tw w b
 | [], b => by simp [tw]
 | x :: a, b => by simp only [J1u, tw, Y4d w a b, Int.mul_assoc]
theorem Y3u (w : List Int) : ∀ a : List (List Int), tw w a.reverse = tw w a
 | [] => rfl
 | x :: a => by
  rw [J1d, Y4d, Y3u w a];simp [tw];exact J1t _ _
theorem Y2h : ∀ a b : List (List Int), sizeP (a ++ b) = sizeP a * sizeP b
 | [], b => by simp [sizeP]
 | x :: a, b => by simp only [J1u, sizeP, Y2h a b, Nat.mul_assoc]
theorem Yu : ∀ a : List (List Int), sizeP a.reverse = sizeP a
 | [] => rfl
 | x :: a => by
  rw [J1d, Y2h, Yu a];simp [sizeP];exact Nat.mul_comm _ _
def Wts (w l : List Int) : Prop := ∀ x ∈ l, 1 <= at_ 0 w x /\ at_ 0 w x <= 9
theorem Y24 {a b : Int} (c : 1 <= a) (d : 1 <= b) : 1 <= a * b := by
 have := Int.mul_le_mul c d om om;omega
theorem Y2i {w : List Int} : ∀ {l : List Int}, Wts w l -> 1 <= pw w l
 | [], _ => J1h 1
 | x :: l, h => Y24 (h x sm).1 (Y2i fun y a => h y (by simp [a]))
theorem Y9c {w : List Int} : ∀ {l : List Int}, Wts w l -> pw w l <= ((9 ^ l.length : Nat) : Int)
 | [], _ => by simp [pw]
 | x :: l, h => by
  have b := h x sm;have c := Y9c (l := l) fun y a => h y (by simp [a]);have d := Y2i (l := l) fun y a => h y (by simp [a]);have := Int.mul_le_mul b.2 c om om;simp only [pw, Jy, J1s];rw [Nat.mul_comm (9 ^ l.length) 9, J2a];exact this
theorem Y3v {w : List Int} : ∀ {l : List Int}, Wts w l -> (l.length : Int) <= sw w l /\ sw w l <= 9 * (l.length : Int)
 | [], _ => by simp [sw]
 | x :: l, h => by
  have b := h x sm;have c := Y3v (l := l) fun y a => h y (by simp [a]);simp [sw];omega
theorem Y7y : ∀ n : Nat, 9 * n <= 18 ^ n
 | 0 => by decide
 | n + 1 => by
  have := Y7y n;have a : 1 <= 18 ^ n := Nat.one_le_pow _ _ (by decide);rw [J1s];omega
theorem Y3w {w : List Int} : ∀ {L : List (List Int)}, (∀ b ∈ L, b ≠ []) -> (∀ b ∈ L, Wts w b) -> 1 <= tw w L
 | [], _, _ => J1h 1
 | b :: L, h0, h => by
  have c := Y3v (h b sm);have : 0 < b.length := Jq.2 (h0 b sm);exact Y24 om (Y3w (fun x a => h0 x (by simp [a])) fun x a => h x (by simp [a]))
theorem Y70 {w : List Int} : ∀ {L : List (List Int)}, (∀ b ∈ L, b ≠ []) -> (∀ b ∈ L, Wts w b) -> tw w L <= ((18 ^ (L.map List.length).sum : Nat) : Int)
 | [], _, _ => by simp [tw]
 | b :: L, h0, h => by
  have e := Y3v (h b sm);have c := Y70 (L := L) (fun x a => h0 x (by simp [a])) fun x a => h x (by simp [a]);have f := Y3w (L := L) (fun x a => h0 x (by simp [a])) fun x a => h x (by simp [a]);have g := Y7y b.length;have d : sw w b <= ((18 ^ b.length : Nat) : Int) :=om;have := Int.mul_le_mul d c om om;simp only [tw, J24, J2e];rw [Nat.pow_add, J2a];exact this
theorem Y4e : ∀ {L : List (List Int)}, (∀ b ∈ L, b ≠ []) -> 1 <= sizeP L
 | [], _ => Jx 1
 | b :: L, h0 => by
  have : 0 < b.length := Jq.2 (h0 b sm);have a := Y4e (L := L) fun x c => h0 x (by simp [c]);exact Nat.mul_pos this a
theorem Y1k : ∀ {L : List (List Int)}, (∀ b ∈ L, b ≠ []) -> sizeP L <= 2 ^ (L.map List.length).sum
 | [], _ => by simp [sizeP]
 | b :: L, h0 => by
  have a := Y1k (L := L) fun x c => h0 x (by simp [c]);simp [sizeP];rw [Nat.pow_add];exact Nat.mul_le_mul (Nat.le_of_lt Nat.lt_two_pow_self) a
theorem Y6l {a b : Int} (c : 0 <= a) (d : 1 <= b) : a <= a * b := by
 have := Int.mul_le_mul_of_nonneg_left d c;omega
theorem Y9v {a b : Nat} (c : 1 <= b) : a <= a * b := by
 have := Nat.mul_le_mul_left a c;omega
theorem Y5h {w : List Int} : ∀ {C : List (List Int)} {k : Nat}, (∀ c ∈ C, c ≠ []) -> (∀ c ∈ C, Wts w c) -> pw w (nth C k) <= pw w (C.map (bestB w)) /\ Wts w (nth C k) /\ (nth C k).length = C.length
 | [], k, _, _ => ⟨J1h 1, fun x a => by simp [nth] at a, rfl⟩
 | c :: C, k, h0, h => by
  have f : 0 < c.length := Jq.2 (h0 c sm);have q : k % c.length < c.length := J1g _ f;obtain ⟨i, e, j⟩ := Y5h (C := C) (k := k / c.length) (fun x a => h0 x (by simp [a])) fun x a => h x (by simp [a]);have a : c.getD (k % c.length) 0 ∈ c :=gr;have g := h c sm _ a;have d : ∀ (l : List Int) (m : Int), at_ 0 w m <= at_ 0 w (l.foldl (mx w) m) /\ ∀ x ∈ l, at_ 0 w x <= at_ 0 w (l.foldl (mx w) m) := by
   intro l
   induction l with
   | nil => grind
   | cons y l n =>
    intro m;obtain ⟨o, a2⟩ := n (mx w m y);have p : at_ 0 w m <= at_ 0 w (mx w m y) /\ at_ 0 w y <= at_ 0 w (mx w m y) := by
     unfold mx;split <;> omega
    rw [J1n];refine ⟨om, fun x a => ?_⟩;rcases Jv.1 a with rfl | a
    ·omega
    ·exact a2 x a
  have b : at_ 0 w (c.getD (k % c.length) 0) <= at_ 0 w (bestB w c) := (d c _).2 _ a;have r := Y2i e;refine ⟨?_, fun x a => ?_, by simp [nth, j]⟩
  ·simp [nth, pw];exact Int.mul_le_mul b i om om
  ·simp [nth] at a;rcases a with rfl | a
   ·exact g
   ·exact e x a
theorem Y4f {w l : List Int} (h : Wts w l) (d : ∀ x ∈ l, 0 <= x /\ x < (w.length : Int)) (r : l.length <= 14) (B : 1048576 < N) : Z1g N N w l 1 0 = some (pw w l) := by
 have C := Y9c h;have A : 9 ^ l.length <= 9 ^ 14 := Jt (by decide) r;have q : (9 : Nat) ^ 14 = 22876792454961 := by decide
 have := loop (fun k (s : Int × Nat) => Z1g N k w l s.1 (s.2 : Int)) (fun s => s.2 <= l.length /\ 1 <= s.1 /\ s.1 * pw w (l.drop s.2) = pw w l) (fun s => l.length - s.2) (fun o => o = some (pw w l)) (fun k s t => by
  obtain ⟨n, j⟩ := s;obtain ⟨p, e, b⟩ := t;simp only at p e b ⊢;by_cases c : j < l.length
  ·right;have i : (j : Int) < (l.length : Int) :=om;have f := J4 c;have g := d _ f;have v := h _ f;have y := Y2i (w := w) (l := l.drop (j + 1)) fun x u => h x (J1f u);rw [Ja c, pw, <- Int.mul_assoc] at b;have z := Y24 e v.1;have D := Y6l (a := n * at_ 0 w l[j]) om y;have m : w64 (n * at_ 0 w l[j]) = n * at_ 0 w l[j] := Y5;refine ⟨(n * at_ 0 w l[j], j + 1), ⟨c, z, b⟩, by simp only; omega, ?_⟩;simp only [zS, Z1g, Z3v, i, Y1 c, Y3 c, Y8 g.1 g.2, m, Y0 (j := j)]
  ·left;have : j = l.length :=om;subst this;rw [J1v, pw, Int.mul_one] at b;simp [Z1g, Z3v, J1, b]) N (1, 0) (by simp only; omega) ⟨sm, sm, sm⟩
 exact this
theorem Y4g (w : List Int) : ∀ a b : List Int, sw w (a ++ b) = sw w a + sw w b
 | [], b => by simp [sw]
 | x :: a, b => by simp only [J1u, sw, Y4g w a b]; omega
theorem Y9w {w : List Int} {b : List (List Int)} {c : List Int} (z : c.length <= 14) (u : Wts w c) (e : ∀ x ∈ c, 0 <= x /\ x < (w.length : Int)) (y : 1048576 < N) (R : List Int -> Int -> List (List Int) -> Int -> Int -> Option Int) (n t j i : Int) :
  Z1k R N N w n 0 b t j i c (c.length : Int) 0 = R w (w64 (n * sw w c)) b t (w64 (j + 1)) := by
 have := loop (fun k (s : Int × Nat) => Z1k R N k w n s.1 b t j i c (c.length : Int) (s.2 : Int)) (fun s => s.2 <= c.length /\ s.1 = sw w (c.take s.2)) (fun s => c.length - s.2) (fun o => o = R w (w64 (n * sw w c)) b t (w64 (j + 1))) (fun k s r => by
  obtain ⟨s, q⟩ := s;obtain ⟨p, d⟩ := r;simp only at p d ⊢;by_cases a : q < c.length
  ·right;have g : (q : Int) < (c.length : Int) :=om;have f := e _ (J4 a);have A := Y3v (w := w) (l := c.take (q + 1)) fun x v => u x (List.mem_of_mem_take v);have B : (c.take (q + 1)).length <= 14 :=gr;have h : sw w (c.take (q + 1)) = s + at_ 0 w c[q] := by
    rw [J6 a, Y4g, d];simp [sw]
   have m : w64 (s + at_ 0 w c[q]) = sw w (c.take (q + 1)) := by rw [<- h]; exact Y5
   refine ⟨(sw w (c.take (q + 1)), q + 1), ⟨a, rfl⟩, by simp only; omega, ?_⟩;simp only [zS, Z1k, Z46, g, Y1 a, Y3 a, Y8 f.1 f.2, m, Y0 (j := q)]
  ·left;have : q = c.length :=om;subst this;rw [Jz] at d;simp [Z1k, Z46, J1, d]) N (0, 0) (by simp only; omega) ⟨sm, by simp [sw]⟩
 exact this
theorem Y9d : (18 : Nat) ^ 14 = 374813367582081024 := by decide
theorem Y9x {w : List Int} {b : List (List Int)} (i : (b.map List.length).sum <= 14) (z : b.length <= 14) (y : ∀ x ∈ b, x.length <= 14) (g : ∀ x ∈ b, x ≠ []) (f : ∀ x ∈ b, Wts w x) (l : ∀ r ∈ b, ∀ x ∈ r, 0 <= x /\ x < (w.length : Int)) (v : 1048576 < N) : Z15 N N w 1 b (b.length : Int) 0 = some (tw w b) := by
 have D := Y70 g f;have h : 18 ^ (b.map List.length).sum <= 18 ^ 14 := Jt (by decide) i;rw [Y9d] at h;have := loop (fun k (s : Int × Nat) => Z15 N k w s.1 b (b.length : Int) (s.2 : Int)) (fun s => s.2 <= b.length /\ 1 <= s.1 /\ s.1 * tw w (b.drop s.2) = tw w b) (fun s => b.length - s.2) (fun o => o = some (tw w b)) (fun k s A => by
  obtain ⟨n, j⟩ := s;obtain ⟨u, p, c⟩ := A;simp only at u p c ⊢;by_cases d : j < b.length
  ·right;have q : (j : Int) < (b.length : Int) :=om;have e := J4 d;have E := Y3v (f _ e);have F : 0 < (b[j]).length := Jq.2 (g _ e);have B := Y3w (w := w) (L := b.drop (j + 1)) (fun x m => g x (J1f m)) fun x m => f x (J1f m);rw [Ja d, tw, <- Int.mul_assoc] at c;have C := Y24 (b := sw w b[j]) p om;have G := Y6l (a := n * sw w b[j]) om B;have t : w64 (n * sw w b[j]) = n * sw w b[j] := Y5;refine ⟨(n * sw w b[j], j + 1), ⟨d, C, c⟩, by simp only; omega, ?_⟩;simp only [zS, Z15, Z47, q, Y1 d, Y3 d];rw [Y9w (y _ e) (f _ e) (l _ e) v, t, Y0]
  ·left;have : j = b.length :=om;subst this;rw [J1v, tw, Int.mul_one] at c;simp [Z15, Z47, J1, c]) N (1, 0) (by simp only; omega) ⟨sm, sm, sm⟩
 exact this
theorem Yad {b : List (List Int)} (f : (b.map List.length).sum <= 14) (r : b.length <= 14) (g : ∀ x ∈ b, x ≠ []) (w : 1048576 < N) : Z2r N N 1 (toI (b.map List.length)) 0 = some (sizeP b : Int) := by
 have y := Y1k g;have q : 2 ^ (b.map List.length).sum <= 2 ^ 14 := Jt (by decide) f;have e : (toI (b.map List.length)).length = b.length := by simp [toI]
 have := loop (fun k (s : Nat × Nat) => Z2r N k (s.1 : Int) (toI (b.map List.length)) (s.2 : Int)) (fun s => s.2 <= b.length /\ s.1 * sizeP (b.drop s.2) = sizeP b) (fun s => b.length - s.2) (fun o => o = some (sizeP b : Int)) (fun k s t => by
  obtain ⟨n, j⟩ := s;obtain ⟨p, c⟩ := t;simp only at p c ⊢;by_cases h : j < b.length
  ·right;have i : (j : Int) < ((toI (b.map List.length)).length : Int) :=om;have v := Y4e (L := b.drop (j + 1)) fun x u => g x (J1f u);rw [Ja h, sizeP, <- Nat.mul_assoc] at c;have z := Y9v (a := n * (b[j]).length) v;have d : j < (toI (b.map List.length)).length :=om;have l : (toI (b.map List.length))[j] = ((b[j]).length : Int) := by simp [toI]
   have m : w64 ((n : Int) * ((b[j]).length : Int)) = ((n * (b[j]).length : Nat) : Int) := by
    rw [<- J2a];exact Y5
   refine ⟨(n * (b[j]).length, j + 1), ⟨h, c⟩, by simp only; omega, ?_⟩;simp only [zS, Z2r, Z5e, i, Y1 d, Y3 d, l, m, Y0 (j := j)]
  ·left;have : j = b.length :=om;subst this;rw [J1v, sizeP, Nat.mul_one] at c;simp [Z2r, Z5e, e, J1, c]) N (1, 0) (by simp only; omega) ⟨sm, sm⟩
 exact this
theorem Y7z {l : List Int} (B : l.length <= 1000) (x : l.Pairwise (· > ·)) (A : 1048576 < N) : Z19 N l = some l.reverse := by
 unfold Z19 Z98;have := loop (fun k (s : Nat) => Z0z N k l (l.take s).reverse (s : Int)) (fun s => s <= l.length) (fun s => l.length - s) (fun o => o = some l.reverse) (fun k s y => by
  by_cases a : s < l.length
  ·right;refine ⟨s + 1, a, om, ?_⟩;have u : (s : Int) < (l.length : Int) :=om;have c : ((l.take s).reverse).length = s :=gr;have p : (l.take (s + 1)).reverse = l[s] :: (l.take s).reverse := by rw [J6 a]; simp
   have b : ∀ q (h : q < ((l.take s).reverse).length), ((l.take s).reverse)[q] > l[s] := by
    intro q h;have w : ((l.take s).reverse)[q] ∈ l.take s := J10.1 (J4 h);obtain ⟨i, hi, v⟩ := Jg.1 w;rw [<- v, J22];have f : i < s :=gr;exact Jo.1 x i s om a f
   simp [Z0z, Z5p, u, J5, c];rw [p];generalize (l.take s).reverse = out at *;have := loop (fun q (t : Nat) => Z2q (Z0z N k) N q l out (s : Int) (t : Int)) (fun t => t <= out.length) (fun t => t) (fun o => o = Z0z N k l (l[s] :: out) ((s + 1 : Nat) : Int)) (fun q t C => by
    by_cases r : 0 < t
    ·right;refine ⟨t - 1, om, om, ?_⟩;have d : (t : Int) > 0 :=om;have e : t - 1 < out.length :=om;simp only [zS, Z2q, Z48, d, Yd r om, Y1 e, Y1 a, Y3 e, Y3 a, b (t - 1) e]
    ·left;have : t = 0 :=om;subst this;have z : subOk 0 0 out.length = true := Yo om om om;have g : subOk 0 (out.length : Int) out.length = true := Yo om om om;have m : appOk ([] : List Int) [] 8 = true := rfl;have a2 : appOk ([] : List Int) [l[s]] 8 = true := Y4;have n : appOk [l[s]] out 8 = true := Y4;have d : ¬ (0 : Int) > 0 :=om;simp only [zS, Z2q, Z48, Int.cast_ofNat_Int, d, Int.toNat_zero, List.take_zero, List.drop_zero, z, g, Y1 a, Y3 a, m, a2, n, J1x, J1r, Y0 (j := s)]) N s om om
   exact this
  ·left;have : s = l.length :=om;subst this;simp [Z0z, Z5p]) N 0 om om
 exact this
structure Good1 (d : Db) (w : List Int) : Prop where
 vb : validDb d = true
 len : w.length = d.2.length
 few : d.2.length <= 14
 wts : ∀ x, 0 <= x -> x < (d.2.length : Int) -> 1 <= at_ 0 w x /\ at_ 0 w x <= 9
theorem Y1n {d : Db} {w : List Int} (h : validWeights d w = true) : Good1 d w := by
 unfold validWeights at h;simp at h;obtain ⟨a, c, e⟩ := h;refine ⟨a, c, (Y9 a).few, fun x b f => ?_⟩;rw [Ym b om];exact of_decide_eq_true (Jp.1 e _ (J4 _))
structure Blks (n : Nat) (w : List Int) (L : List (List Int)) : Prop where
 ne : ∀ b ∈ L, b ≠ []
 sum : (L.map List.length).sum <= 14
 len : L.length <= 14
 each : ∀ b ∈ L, b.length <= 14
 ins : ∀ b ∈ L, ∀ x ∈ b, 0 <= x /\ x < (n : Int)
 wts : ∀ b ∈ L, Wts w b
 flat : L.flatten.Pairwise (· < ·)
theorem Good1.blks {d : Db} {w : List Int} (h : Good1 d w) : Blks d.2.length w (blocksOf d) := by
 obtain ⟨g, i, j, k⟩ := Y16 h.vb;have f := h.few;have c := Y3s h.vb;refine ⟨fun b a => (Y2d h.vb b a).1, ?_, om, fun b a => (Y2d h.vb b a).2, c, fun b a x e => ?_, ?_⟩
 ·show (sizes d).sum <= 14;omega
 ·have := c b a x e;exact h.wts x this.1 this.2
 ·rw [Y1t h.vb]; exact Y5f _
theorem Yh {d : Db} {w : List Int} (h : SmallDb d) (c : Good1 d w) (a : 1048576 < N) : Z4 N d = some (sizeP (blocksOf d) : Int) := by
 have b := c.blks;unfold Z4 Z95;rw [Ys h a, J0, c.vb, J9, J1, Y7l h a, J0];exact Yad b.sum b.len b.ne a
theorem Y6m {N : Nat} {L : List (List Int)} (g : ∀ b ∈ L, b ≠ []) : ∀ (m f k : Nat) (a : List Int), m < f -> m <= L.length -> a.length + m <= 100 -> k <= 1000000 -> Z4t N f (k : Int) L a ((m : Int) - 1) = (Z19 N (a ++ nth (L.take m).reverse k)).bind fun r => some (r, true)
 | _, 0, _, _, hf, _, _, _ => om
 | 0, f + 1, k, a, hf, hm, ho, hk => by
  have c : ¬ ((0 : Nat) : Int) - 1 >= 0 :=om;simp only [Z4t, Z72, J7 c, J1, List.take_zero, List.reverse_nil, nth, Jm]
 | m + 1, f + 1, k, a, hf, hm, ho, hk => by
  have h : ((m + 1 : Nat) : Int) - 1 = (m : Int) :=om;have d : m < L.length :=om;have n : 0 < (L[m]).length := Jq.2 (g _ (J4 d));have s : ((L[m]).length : Int) ≠ 0 :=om;have e : k % (L[m]).length < (L[m]).length := J1g _ n;have l : (k : Int).tmod ((L[m]).length : Int) = ((k % (L[m]).length : Nat) : Int) := rfl;have j : (k : Int).tdiv ((L[m]).length : Int) = ((k / (L[m]).length : Nat) : Int) := rfl;have o : k / (L[m]).length <= k := Nat.div_le_self _ _;have p : (0 : Int) <= ((k / (L[m]).length : Nat) : Int) := Int.natCast_nonneg _;have q : ((k / (L[m]).length : Nat) : Int) <= (k : Int) := Int.ofNat_le.2 o;have c : (m : Int) >= 0 :=om;have i : (L.take (m + 1)).reverse = L[m] :: (L.take m).reverse := by simp_all
  simp only [zS, Z4t, Z72, h, J2 c, Y1 d, Y3 d, Yc s, l, j, Y1 e, Y3 e];rw [Y4, grd_true, Y5 (x := ((k / (L[m]).length : Nat) : Int)), Y5 (x := (m : Int) - 1), Y6m g m f _ _ om om (by simp; omega) om, i];simp only [nth, Y2 e, J17, J1r]
theorem Y49 : ∀ {C : List (List Int)} {k : Nat}, (∀ c ∈ C, c ≠ []) -> ∀ y ∈ nth C k, ∃ c ∈ C, y ∈ c
 | [], k, _, y, a => by simp [nth] at a
 | c :: C, k, h0, y, a => by
  have f : 0 < c.length := Jq.2 (h0 c sm);have h : k % c.length < c.length := J1g _ f;simp only [nth, Jv] at a;rcases a with rfl | a
  ·simp_all
  ·obtain ⟨b, d, e⟩ := Y49 (C := C) (fun x g => h0 x (by simp [g])) y a;exact ⟨b, by simp [d], e⟩
theorem Y1g : ∀ {C : List (List Int)} {k : Nat}, (∀ c ∈ C, c ≠ []) -> C.Pairwise (fun b c => ∀ x ∈ b, ∀ y ∈ c, x > y) -> (nth C k).Pairwise (· > ·)
 | [], k, _, _ => by simp [nth]
 | c :: C, k, h0, hp => by
  have h : 0 < c.length := Jq.2 (h0 c sm);have d : k % c.length < c.length := J1g _ h;have a : ∀ x ∈ C, x ≠ [] := fun x i => h0 x (by simp [i]);rw [J1a] at hp;simp only [nth, J1a];refine ⟨fun y j => ?_, Y1g a hp.2⟩;obtain ⟨e, f, g⟩ := Y49 a y j;rw [Y2 d];exact hp.1 e f _ (J4 d) y g
theorem Blks.rev {n : Nat} {w : List Int} {L : List (List Int)} (h : Blks n w L) : (∀ c ∈ L.reverse, c ≠ []) /\ L.reverse.Pairwise (fun b c => ∀ x ∈ b, ∀ y ∈ c, x > y) := by
 refine ⟨fun c d => h.ne c (J10.1 d), ?_⟩;rw [J27];refine ((List.pairwise_flatten.1 h.flat).2).imp fun a x e y f => ?_;exact a y f x e
def repN (L : List (List Int)) (k : Nat) : List Int := (nth L.reverse k).reverse
theorem nthV {d : Db} {w : List Int} (h : SmallDb d) (e : Good1 d w) (b : 1048576 < N) {k : Nat} (j : k < sizeP (blocksOf d)) : Z25 N d k = some (repN (blocksOf d) k, true) := by
 have a := e.blks;have m := Y1k a.ne;have g : 2 ^ ((blocksOf d).map List.length).sum <= 2 ^ 14 := Jt (by decide) a.sum;unfold Z25 Z0ad;rw [Yh h e b, J0, Y5, l1In, J0, J2 om, J9, J1, Yq h b, J0];have l := a.len;have := Y6m (N := N) a.ne (blocksOf d).length N k [] om (Jx _) (by simp; omega) om;rw [Y5, this, Jz, J1x];have f := (Y5h (w := w) (k := k) a.rev.1 fun c i => a.wts c (J10.1 i)).2.2;rw [Y7z gr (Y1g a.rev.1 a.rev.2) b];rfl
theorem Y35 {n : Nat} {l : List Int} (e : l.Pairwise (· < ·)) (a : ∀ x ∈ l, 0 <= x /\ x < (n : Int)) : validSet n l = true := by
 unfold validSet;rw [J3];intro j b;have f := a _ (J4 b);rw [Jd, J3, Y2 b];refine ⟨om, ?_⟩;by_cases d : j = 0
 ·simp [d]
 ·have c : j - 1 < l.length :=om;rw [Y2 c, J2 (Jo.1 e (j - 1) j c b om), Bool.or_true]
theorem Y5i {d : Db} {w : List Int} (h : SmallDb d) (hv : validWeights d w = true) (e : 1048576 < N) : Z1u N d w = some (tw w (blocksOf d)) := by
 have c := Y1n hv;have a := c.blks;have b := c.len;have i := c.few;unfold Z1u Z7d;rw [Y1s h om e, J0, hv, J9, J1, Y47 h c.vb e, J0];exact Y9x a.sum a.len a.each a.ne a.wts (fun r f x g => by rw [b]; exact a.ins r f x g) e
theorem Y71 (S : Nat -> Nat -> Bool) (n : Nat) : (sts S n).Pairwise (· < ·) := J28 _ (J1o)
theorem Y9y {S : Nat -> Nat -> Bool} {n : Nat} (a : Runs S n) : (B S n).Pairwise (fun b c => ∀ x ∈ b, ∀ y ∈ c, S y x = false) := by
 unfold B;rw [J11];refine (Y71 S n).imp_of_mem fun {s t} l i d x j y k => ?_;have f : S s x = true := (Jj.1 j).2;have g : S t y = true := (Jj.1 k).2;rw [J1c];intro h;have e := a.trans _ _ _ (a.trans _ _ _ g h) (a.symm _ _ f);rw [Ya.1 (Y1v.1 i).2 s d] at e;simp at e
def subDb (d : Db) (l : List Int) : Db := (d.1, l.map fun x => factAt d x.toNat)
theorem Y6n {d : Db} {l : List Int} (h : SmallDb d) (f : validDb d = true) (p : l.Pairwise (· < ·)) (a : ∀ x ∈ l, 0 <= x /\ x < (d.2.length : Int)) (r : l.length <= 14) (m : 1048576 < N) : Z1v N d l = some (subDb d l, true) := by
 have t := h.rels;unfold Z1v Z9n;rw [Ys h m, J0, f, J9, J1, Y6i h om m, J0, Y35 p a, J9, J1, Y4, grd_true];have := loop (fun k (s : Nat) => Z4w N k l d.1 d.2 [] [] d.1 ((l.take s).map fun x => factAt d x.toNat) (s : Int)) (fun s => s <= l.length) (fun s => l.length - s) (fun o => o = some (subDb d l, true)) (fun k j n => by
  simp only [Z4w, Z8b];by_cases b : j < l.length
  ·right;refine ⟨j + 1, b, om, ?_⟩;have c : (j : Int) < (l.length : Int) :=om;have g := a _ (J4 b);have i : (l[j]).toNat < d.2.length :=om;have e : at_ (0, []) d.2 l[j] = factAt d (l[j]).toNat := by
    have := Y14 i
    rwa [show (((l[j]).toNat : Nat) : Int) = l[j] by omega] at this
   have q := Yp h i;simp only [zS, c, Y1 b, Y3 b, Y8 g.1 g.2, e];rw [Y4, grd_true, Y4, grd_true, Y0, J6 b, Jk];rfl
  ·left;have c : ¬ (j : Int) < (l.length : Int) :=om;simp only [zS, c];rw [J1p om];rfl) N 0 om om
 exact this
theorem Yj {d : Db} {l : List Int} {j : Nat} (a : j < l.length) : factAt (subDb d l) j = factAt d (l[j]).toNat := by
 show ((l.map fun x => factAt d x.toNat).getD j (0, [])) = _;rw [Y2 (by simp; exact a), List.getElem_map]
theorem Y2j {d : Db} {l : List Int} (e : validDb d = true) (h : l.Pairwise (· < ·)) (b : ∀ x ∈ l, 0 <= x /\ x < (d.2.length : Int)) (o : l.length <= 14) : validDb (subDb d l) = true := by
 have hv := Y9 e;have f : (subDb d l).2.length = l.length := by simp [subDb]
 unfold validDb;rw [Jd, Jd, J3, J3];refine ⟨hv.rels, om, fun j n => ?_⟩;have a : j < l.length :=om;have i := b _ (J4 a);rw [Yj a, Jd];refine ⟨hv.fact _ om, ?_⟩;by_cases g : j = 0
 ·simp [g]
 ·have c : j - 1 < l.length :=om;have k := Jo.1 h (j - 1) j c a om;have m := b _ (J4 c);rw [Yj c, J2 (hv.lt _ _ om om), Bool.or_true]
def picks : List (List Int) -> List Int -> Prop
 | [], [] => True
 | b :: L, x :: r => x ∈ b /\ picks L r
 | _, _ => False
theorem Y1o : ∀ {L : List (List Int)} {r : List Int}, picks L r -> r.length = L.length
 | [], [], _ => rfl
 | [], _ :: _, h => h.elim
 | _ :: _, [], h => h.elim
 | b :: L, x :: r, h => by simp [Y1o h.2]
theorem Y2k : ∀ {A : List (List Int)} {a : List Int} {B : List (List Int)} {b : List Int}, picks A a -> picks B b -> picks (A ++ B) (a ++ b)
 | [], [], _, _, _, h => h
 | [], _ :: _, _, _, h, _ => h.elim
 | _ :: _, [], _, _, h, _ => h.elim
 | c :: A, x :: a, _, _, h, h2 => ⟨h.1, Y2k h.2 h2⟩
theorem Y29 : ∀ {A : List (List Int)} {a : List Int}, picks A a -> picks A.reverse a.reverse
 | [], [], _ => trivial
 | [], _ :: _, h => h.elim
 | _ :: _, [], h => h.elim
 | c :: A, x :: a, h => by
  rw [J1d, J1d];exact Y2k (Y29 h.2) ⟨h.1, trivial⟩
theorem Y4h : ∀ {C : List (List Int)} (k : Nat), (∀ c ∈ C, c ≠ []) -> picks C (nth C k)
 | [], _, _ => trivial
 | c :: C, k, h => by
  have a : 0 < c.length := Jq.2 (h c sm);refine ⟨?_, Y4h _ fun x b => h x (by simp [b])⟩;rw [Y2 (J1g k a)];exact J4 _
theorem Y2l : ∀ {L : List (List Int)} {r : List Int}, picks L r -> (∀ x ∈ r, ∃ b ∈ L, x ∈ b) /\ ∀ b ∈ L, ∃ x ∈ r, x ∈ b
 | [], [], _ => sm
 | [], _ :: _, h => h.elim
 | _ :: _, [], h => h.elim
 | c :: L, z :: r, h => by
  obtain ⟨g, i⟩ := Y2l h.2;constructor
  ·intro x d;rcases Jv.1 d with e | d
   ·exact ⟨c, sm, e ▸ h.1⟩
   ·obtain ⟨b, k1, f⟩ := g x d;exact ⟨b, by simp [k1], f⟩
  ·intro b a;rcases Jv.1 a with e | a
   ·exact ⟨z, sm, e ▸ h.1⟩
   ·obtain ⟨x, k1, f⟩ := i b a;exact ⟨x, by simp [k1], f⟩
def Ordd (L : List (List Int)) : Prop := L.Pairwise fun b c => ∀ x ∈ b, ∀ y ∈ c, x < y
structure Parts (n : Nat) (S : Nat -> Nat -> Bool) (L : List (List Int)) : Prop where
 ne : ∀ b ∈ L, b ≠ []
 ins : ∀ b ∈ L, ∀ x ∈ b, 0 <= x /\ x < (n : Int)
 ord : Ordd L
 cover : ∀ x : Int, 0 <= x -> x < (n : Int) -> ∃ b ∈ L, x ∈ b
 same : ∀ b ∈ L, ∀ x ∈ b, ∀ y ∈ b, S x.toNat y.toNat = true
 apart : L.Pairwise fun b c => ∀ x ∈ b, ∀ y ∈ c, S y.toNat x.toNat = false
 symm : ∀ i k, S i k = true -> S k i = true
def sumX (f : Int -> Int) : List Int -> Int
 | [] => 0
 | x :: l => f x + sumX f l
def sumC : List (List Int) -> (List Int -> Int) -> Int
 | [], g => g []
 | b :: C, g => sumC C fun r => sumX (fun x => g (x :: r)) b
theorem Y10 {f g : Int -> Int} : ∀ {l : List Int}, (∀ x ∈ l, f x = g x) -> sumX f l = sumX g l
 | [], _ => rfl
 | x :: l, h => by simp [sumX]; rw [h x sm, Y10 fun y a => h y (by simp [a])]
theorem Y5j {f : Int -> Int} {c : Int} : ∀ {l : List Int}, sumX (fun x => c * f x) l = c * sumX f l
 | [] => by simp [sumX]
 | x :: l => by simp [sumX]; rw [Y5j, Int.mul_add]
theorem Y5k {f g : Int -> Int} : ∀ {l : List Int}, sumX (fun x => f x + g x) l = sumX f l + sumX g l
 | [] => rfl
 | x :: l => by simp [sumX]; rw [Y5k]; omega
theorem Y4i : ∀ {l : List Int}, sumX (fun _ => 0) l = 0
 | [] => rfl
 | x :: l => by simp only [sumX]; rw [Y4i]; rfl
theorem Y4j {f : Int -> Int -> Int} : ∀ {a b : List Int}, sumX (fun x => sumX (fun y => f x y) b) a = sumX (fun y => sumX (fun x => f x y) a) b
 | [], b => by simp [sumX]; rw [Y4i]
 | x :: a, b => by
  simp [sumX];rw [Y4j, <- Y5k]
theorem Y5l {f : Int -> Int} {k : Int -> Int} : ∀ {l : List Int}, sumX f (l.map k) = sumX (fun x => f (k x)) l
 | [] => rfl
 | x :: l => by simp [sumX]; rw [Y5l]
theorem Y80 (f : Int -> Int) : ∀ c : List Int, sumN (fun r => f (c.getD r 0)) c.length = sumX f c
 | [] => rfl
 | x :: c => by
  rw [Jy, Y2f];simp only [List.getD_cons_zero, List.getD_cons_succ, sumX, Y80 f c]
theorem Y5m (F : Nat -> Nat -> Int) {a : Nat} (b : 0 < a) : ∀ Q, sumN (fun k => F (k % a) (k / a)) (a * Q) = sumN (fun j => sumN (fun i => F i j) a) Q
 | 0 => by simp [sumN]
 | Q + 1 => by
  rw [Nat.mul_succ, Y3h, Y5m F b Q];congr 1;refine Yi fun k c => ?_;rw [Nat.mul_add_mod, Nat.mod_eq_of_lt c, Nat.mul_add_div b, Nat.div_eq_of_lt c, Nat.add_zero]
theorem Y5n : ∀ {C : List (List Int)} {g : List Int -> Int}, (∀ c ∈ C, c ≠ []) -> sumN (fun k => g (nth C k)) (sizeP C) = sumC C g
 | [], g, _ => by simp [sumN, sizeP, nth, sumC]
 | c :: C, g, h => by
  have a : 0 < c.length := Jq.2 (h c sm);show sumN (fun k => g (c.getD (k % c.length) 0 :: nth C (k / c.length))) (c.length * sizeP C) = _;rw [Y5m (fun i j => g (c.getD i 0 :: nth C j)) a];simp [sumC];rw [<- Y5n fun x b => h x (by simp [b])];refine Yi fun k _ => ?_;exact Y80 (fun x => g (x :: nth C k)) c
theorem Y25 : ∀ {C : List (List Int)} {g g' : List Int -> Int}, (∀ r, picks C r -> g r = g' r) -> sumC C g = sumC C g'
 | [], g, g', h => h [] trivial
 | c :: C, g, g', h => by
  simp [sumC];exact Y25 fun r a => Y10 fun x b => h (x :: r) ⟨b, a⟩
theorem Y3i {c : Int} : ∀ {C : List (List Int)} {g : List Int -> Int}, sumC C (fun r => c * g r) = c * sumC C g
 | [], g => rfl
 | b :: C, g => by
  simp [sumC, Y5j];rw [Y3i]
theorem Y36 : ∀ {A B : List (List Int)} {g : List Int -> Int}, sumC (A ++ B) g = sumC B fun s => sumC A fun r => g (r ++ s)
 | [], B, g => rfl
 | a :: A, B, g => by
  simp [sumC];rw [Y36]
def Unord (g : List Int -> Int) : Prop := ∀ r s : List Int, r.Perm s -> g r = g s
theorem Y2m {A B : List (List Int)} (h : A.Perm B) : ∀ {g : List Int -> Int}, Unord g -> sumC A g = sumC B g := by
 induction h with
 | nil => intro g _; rfl
 | cons b _ e =>
  intro g c;simp [sumC];exact e fun r s d => Y10 fun x _ => c _ _ (d.cons x)
 | swap a b l =>
  intro g c;simp [sumC];congr 1;funext r;rw [Y4j];refine Y10 fun x _ => Y10 fun y _ => c _ _ (List.Perm.swap ..)
 | trans _ _ f i => grind
theorem Y5o {f : Int -> Int} : ∀ {C : List (List Int)} {g : List Int -> Int}, sumC (C.map (List.map f)) g = sumC C fun r => g (r.map f)
 | [], g => rfl
 | c :: C, g => by
  simp [sumC];rw [Y5o];congr 1;funext r;rw [Y5l]
theorem Y72 {A B : List (List Int)} {g : List Int -> Int} (h : ∀ r s, picks A r -> picks B s -> g (r ++ s) = g r * g s) : sumC (A ++ B) g = sumC A g * sumC B g := by
 rw [Y36];rw [Y25 (g' := fun s => sumC A g * g s) fun s b => ?_, Y3i];rw [Y25 (g' := fun r => g s * g r) fun r a => by rw [h r s a b, J1t], Y3i, J1t]
def blkAt (L : List (List Int)) (I : List Nat) : List (List Int) := I.map fun k => L.getD k []
def ofMark (mk : Nat -> Nat) (n i : Nat) : List Nat := (List.range n).filter fun k => decide (mk k = i)
def below (mk : Nat -> Nat) (n m : Nat) : List Nat := (List.range n).filter fun k => decide (mk k < m)
def prodN (f : Nat -> Int) : Nat -> Int
 | 0 => 1
 | n + 1 => prodN f n * f n
theorem Y4k (L : List (List Int)) : blkAt L (List.range L.length) = L := by
 unfold blkAt;apply List.ext_getElem
 ·simp
 ·grind
theorem Y73 (mk : Nat -> Nat) (n m : Nat) : (below mk n m ++ ofMark mk n m).Perm (below mk n (m + 1)) := by
 have h := List.filter_append_perm (fun k => decide (mk k < m)) (below mk n (m + 1));have a : (below mk n (m + 1)).filter (fun k => decide (mk k < m)) = below mk n m := by
  unfold below;rw [List.filter_filter];refine List.filter_congr fun k _ => ?_;rw [Ju, Jd, J3, J3];omega
 have b : (below mk n (m + 1)).filter (fun k => !decide (mk k < m)) = ofMark mk n m := by
  unfold below ofMark;rw [List.filter_filter];refine List.filter_congr fun k _ => ?_;rw [Ju, Jd, J21, J1l, J3, J3];omega
 rw [a, b] at h;exact h
theorem Y26 {L : List (List Int)} {mk : Nat -> Nat} {n : Nat} {g : List Int -> Int} (c : Unord g) (b : g [] = 1) (h : ∀ I J : List Nat, (∀ i ∈ I, i < n) -> (∀ j ∈ J, j < n) -> (∀ i ∈ I, ∀ j ∈ J, mk i ≠ mk j) -> ∀ r s, picks (blkAt L I) r -> picks (blkAt L J) s -> g (r ++ s) = g r * g s) : ∀ m, sumC (blkAt L (below mk n m)) g = prodN (fun i => sumC (blkAt L (ofMark mk n i)) g) m
 | 0 => by
  have : below mk n 0 = [] := by
   unfold below;rw [J23];simp
  rw [this];exact b
 | m + 1 => by
  have f : (blkAt L (below mk n m) ++ blkAt L (ofMark mk n m)).Perm (blkAt L (below mk n (m + 1))) := by
   have := (Y73 mk n m).map fun k => L.getD k [];rw [Jk] at this;exact this
  rw [<- Y2m f c, Y72, Y26 c b h m]
  ·rfl
  ·refine h _ _ (fun i hi => ?_) (fun j a => ?_) fun i hi j a => ?_
   ·exact Jf.1 (Jj.1 hi).1
   ·exact Jf.1 (Jj.1 a).1
   ·have d := (Jj.1 hi).2;have e := (Jj.1 a).2;rw [J3] at d e;omega
theorem Y74 {L : List (List Int)} {mk : Nat -> Nat} {g : List Int -> Int} (b : Unord g) (a : g [] = 1) (d : ∀ k, k < L.length -> mk k < L.length) (h : ∀ I J : List Nat, (∀ i ∈ I, i < L.length) -> (∀ j ∈ J, j < L.length) -> (∀ i ∈ I, ∀ j ∈ J, mk i ≠ mk j) -> ∀ r s, picks (blkAt L I) r -> picks (blkAt L J) s -> g (r ++ s) = g r * g s) : sumC L g = prodN (fun i => sumC (blkAt L (ofMark mk L.length i)) g) L.length := by
 rw [<- Y26 b a h L.length];have : below mk L.length L.length = List.range L.length := by
  unfold below;rw [List.filter_eq_self];intro k c;rw [J3];exact d k (Jf.1 c)
 rw [this, Y4k]
def uni : List Int -> List Int -> List Int -> Option (List Int)
 | [], _, x => some x
 | _ :: _, [], _ => none
 | t :: ts, w :: ws, x => if t < 0 then (if -1 - t = w then uni ts ws x else none)
  else if x.getD t.toNat 0 >= 0 then (if x.getD t.toNat 0 = w then uni ts ws x else none)
  else uni ts ws (x.set t.toNat w)
theorem Y2z : ∀ {a b x y : List Int}, uni a b x = some y -> y.length = x.length
 | [], _, x, y, h => by simp [uni] at h; rw [h]
 | _ :: _, [], _, _, h => by simp [uni] at h
 | t :: a, w :: b, x, y, h => by
  simp [uni] at h;split at h
  ·split at h
   ·exact Y2z h
   ·cases h
  ·split at h
   ·split at h
    ·exact Y2z h
    ·cases h
   ·have := Y2z h
    rwa [J2b] at this
theorem Y8s {x : List Int} {t : Nat} (h : t < x.length) {w : Int} (a : x.getD t 0 = w) : x.set t w = x := by
 rw [Y2 h] at a;rw [<- a];exact List.set_getElem_self h
theorem Y30 {N n : Nat} {a2 f2 : Int} {a c : List Int} (i : a.length <= 3) (p : a.length = c.length) (r : n <= 4) (l : termsOk n a = true) (o : 1048576 < N) : ∀ (f q : Nat) (x : List Int), a.length - q < f -> q <= a.length -> x.length = n -> ∃ y, Z7f N f a2 a f2 c x (q : Int) = some (y, (uni (a.drop q) (c.drop q) x).isSome) /\ ∀ z, uni (a.drop q) (c.drop q) x = some z -> y = z
 | 0, q, x, hf, _, _ => om
 | f + 1, q, x, hf, hq', hx => by
  simp only [Z7f, Z0a1];by_cases g : q < a.length
  ·have s : (q : Int) < (a.length : Int) :=om;have h : q < c.length :=om;have v := of_decide_eq_true (Jp.1 l _ (J4 g));rw [Ja g, Ja h];simp only [zS, s, Y1 g, Y3 g, Y1 h, Y3 h, Y0 (j := q), uni, bneI];by_cases k : a[q] < 0
   ·rw [J2 k, J5, Je k, Y5];by_cases d : -1 - a[q] = c[q]
    ·rw [J2 d, J9, J1, Je d];exact Y30 i p r l o f (q + 1) x om g hx
    ·simp_all
   ·obtain ⟨t, e⟩ : ∃ t : Nat, a[q] = (t : Int) := ⟨a[q].toNat, om⟩;have b : t < x.length :=om;rw [J7 k, J1, Jn k, e, Y1 b, grd_true, grd_true, Ji, Y3 b, Y2 b];by_cases d : x[t] >= 0
    ·rw [J2 d, J5, Je d];by_cases m : x[t] = c[q]
     ·rw [J2 m, J9, J1, Je m, grd_true, grd_true, letv_eq, Y8s b (by rw [Y2 b]; exact m)];exact Y30 i p r l o f (q + 1) x om g hx
     ·simp_all
    ·rw [J7 d, J1, Jn d, grd_true, letv_eq];exact Y30 i p r l o f (q + 1) (x.set t c[q]) om g gr
  ·have : q = a.length :=om;subst this;simp only [zS, Jr, J1v, uni];exact ⟨x, rfl, fun z u => by cases u; rfl⟩
theorem Y31 {N n : Nat} {a b : List Int} (g : a.length <= 3) (m : a.length = b.length) (o : n <= 4) (k : termsOk n a = true) (l : 1048576 < N) : ∀ (f q : Nat) (x : List Int), a.length - q < f -> q <= a.length -> x.length = n -> ∃ y, Z8v N f b x a (a.length : Int) (q : Int) = some (y, (uni (a.drop q) (b.drop q) x).isSome) /\ ∀ z, uni (a.drop q) (b.drop q) x = some z -> y = z
 | 0, q, x, hf, _, _ => om
 | f + 1, q, x, hf, hq', hx => by
  simp only [Z8v, Z0ar];by_cases c : q < a.length
  ·have s : (q : Int) < (a.length : Int) :=om;have d : q < b.length :=om;have v := of_decide_eq_true (Jp.1 k _ (J4 c));rw [Ja c, Ja d];simp only [zS, s, Y1 c, Y3 c, Y1 d, Y3 d, Y0 (j := q), uni, bneI, Z5u, Z4o];by_cases p : a[q] < 0
   ·rw [J7 (show ¬ a[q] >= 0 by omega), J1i, J5, Je p, Y5];by_cases i : -1 - a[q] = b[q]
    ·rw [J2 i, J9, J1, Je i];exact Y31 g m o k l f (q + 1) x om c hx
    ·simp_all
   ·obtain ⟨t, e⟩ : ∃ t : Nat, a[q] = (t : Int) := ⟨a[q].toNat, om⟩;have h : t < x.length :=om;rw [J2 (show a[q] >= 0 by omega), J9, J1, Jn p, e, Y1 h, grd_true, Ji, Y3 h, Y2 h];by_cases i : x[t] >= 0
    ·rw [J7 (show ¬ x[t] < 0 by omega), J1, Je i, grd_true];by_cases r : x[t] = b[q]
     ·rw [J2 r, J9, J1, Je r];exact Y31 g m o k l f (q + 1) x om c hx
     ·simp_all
    ·rw [J2 (show x[t] < 0 by omega), J5, Jn i, grd_true, grd_true, letv_eq];exact Y31 g m o k l f (q + 1) (x.set t b[q]) om c gr
  ·have : q = a.length :=om;subst this;simp only [zS, Jr, J1v, uni];exact ⟨x, rfl, fun z u => by cases u; rfl⟩
def meetA (a : Atm) (f : Fact) (x : List Int) : Option (List Int) := if f.1 = a.1 then uni a.2 f.2 x else none
def emb (d : Db) (as : List Atm) : Nat -> Nat -> List Int -> List Int -> List (List Int × List Int)
 | 0, _, x, fs => [(x, fs)]
 | m + 1, k, x, fs => (List.range d.2.length).flatMap fun i => match meetA (atomAt as k) (factAt d i) x with
  | some y => emb d as m (k + 1) y (fs ++ [(i : Int)])
  | none => []
theorem Y1x {d : Db} {as : List Atm} (c : d.2.length <= 14) : ∀ (m k : Nat) (x b : List Int), (emb d as m k x b).length <= 14 ^ m
 | 0, k, x, b => by simp [emb]
 | m + 1, k, x, b => by
  have := Y17 (n := 14 ^ m) (a := List.range d.2.length) (piece := fun i => match meetA (atomAt as k) (factAt d i) x with
   | some y => emb d as m (k + 1) y (b ++ [(i : Int)])
   | none => []) fun i _ => by
    split
    ·exact Y1x c m _ _ _
    ·simp
  rw [Js] at this;rw [J1s, Nat.mul_comm];exact Jh this (J2c _ c)
structure QOk (d : Db) (n : Nat) (as : List Atm) : Prop where
 few : d.2.length <= 14
 n4 : n <= 4
 as3 : as.length <= 3
 terms : ∀ k, k < as.length -> termsOk n (atomAt as k).2 = true /\ (atomAt as k).2.length <= 3
 len : ∀ k i, k < as.length -> i < d.2.length -> (factAt d i).1 = (atomAt as k).1 -> (atomAt as k).2.length = (factAt d i).2.length
theorem qOk {d : Db} {q : Qry} (h : queryFor d q = true) : QOk d q.1.toNat q.2.1 := by
 unfold queryFor validQ at h;simp at h;obtain ⟨g, j, n, m, f, _, _⟩ := h;have hv := Y9 g;have b : ∀ k, k < q.2.1.length -> atomOk d.1 q.1.toNat q.2.1 k = true := of_decide_eq_true f;refine ⟨hv.few, om, om, fun k e => ?_, fun k i e hi l => ?_⟩
 ·have a := b k e;unfold atomOk at a;simp at a;have c := Y3g j a.1;exact ⟨a.2.2.2, om⟩
 ·have a := b k e;unfold atomOk at a;simp at a;have c := (Yx hv.rels (hv.fact i hi)).len;rw [l] at c;have : ((atomAt q.2.1 k).2.length : Int) = ((factAt d i).2.length : Int) := a.2.1.trans c.symm;omega
theorem Y8t {N n : Nat} {d : Db} {as : List Atm} (h : QOk d n as) (f : 1048576 < N) {k i : Nat} (a : k < as.length) (hi : i < d.2.length) {x : List Int} (j : x.length = n) : ∃ y, Z6x N (atomAt as k) (factAt d i) x = some (y, (meetA (atomAt as k) (factAt d i) x).isSome) /\ ∀ z, meetA (atomAt as k) (factAt d i) x = some z -> y = z := by
 have g := h.n4;obtain ⟨l, m⟩ := h.terms k a;unfold Z6x Z0b3 meetA;rw [Y4, grd_true, bneI];by_cases e : (factAt d i).1 = (atomAt as k).1
 ·have b := h.len k i a hi e;have c : (((factAt d i).2.length : Int) != ((atomAt as k).2.length : Int)) = false := by simp [b]
  rw [J2 e, J9, J1, c, J1, Je e];have := Y30 (N := N) (n := n) (a2 := (atomAt as k).1) (f2 := (factAt d i).1) m b g l f N 0 x om om j;simpa using this
 ·simp_all
theorem p14 {m : Nat} (h : m <= 3) : 14 ^ m <= 2744 := Jh (Jt (by decide) h) (by decide)
theorem Y5p {a : Atm} {f : Fact} {x y : List Int} (h : meetA a f x = some y) : y.length = x.length := by
 unfold meetA at h;split at h
 ·exact Y2z h
 ·cases h
theorem Y8u {d : Db} {as : List Atm} (c : d.2.length <= 14) (m k : Nat) (x b : List Int) (j : Nat) (e : j <= d.2.length) : ((List.range j).flatMap fun i => match meetA (atomAt as k) (factAt d i) x with
  | some y => emb d as m (k + 1) y (b ++ [(i : Int)])
  | none => []).length <= 14 * 14 ^ m := by
 have := Y17 (n := 14 ^ m) (a := List.range j) (piece := fun i => match meetA (atomAt as k) (factAt d i) x with
  | some y => emb d as m (k + 1) y (b ++ [(i : Int)])
  | none => []) fun i _ => by
   split
   ·exact Y1x c m _ _ _
   ·simp
 rw [Js] at this;exact Jh this (J2c _ om)
theorem Y6o {N n : Nat} {d : Db} {q : Qry} (h : QOk d n q.2.1) (l : 1048576 < N) : ∀ (m f k : Nat) (x a : List Int), m < f -> k + m = q.2.1.length -> x.length = n -> a.length = k -> Z3j N f d q k x a = some (emb d q.2.1 m k x a)
 | _, 0, _, _, _, hf, _, _, _ => om
 | 0, f + 1, k, x, a, hf, hk, hx, hfs => by
  have A := h.as3;have C := h.n4;obtain rfl : k = q.2.1.length :=om;simp [Z3j, Z9r, J5, emb];rw [Y4, Y4 om gr];rfl
 | m + 1, f + 1, k, x, a, hf, hk, hx, hfs => by
  have A := h.as3;have C := h.n4;have p := h.few;have g : ¬ (k : Int) = (q.2.1.length : Int) :=om;have b : k < q.2.1.length :=om;have F := p14 (m := m) om;simp only [Z3j, Z9r, beqI, J7 g, J1];have := loop (fun t (j : Nat) => Z7g N (Z3j N f) t (k : Int) x a d.1 d.2 q.1 q.2.1 q.2.2 ((List.range j).flatMap fun i => match meetA (atomAt q.2.1 k) (factAt d i) x with
    | some y => emb d q.2.1 m (k + 1) y (a ++ [(i : Int)])
    | none => []) (j : Int)) (fun j => j <= d.2.length) (fun j => d.2.length - j) (fun o => o = some (emb d q.2.1 (m + 1) k x a)) (fun t j B => by
   simp only [Z7g, Z0a2];by_cases c : j < d.2.length
   ·right;refine ⟨j + 1, c, om, ?_⟩;have u : (j : Int) < (d.2.length : Int) :=om;have E := Y8u (as := q.2.1) p m k x a j om;obtain ⟨y, r, s⟩ := Y8t h l b c hx;have v : at_ (0, []) q.2.1 (k : Int) = atomAt q.2.1 k := by rw [Y3 b]; exact (Y2 b).symm
    have w : at_ (0, []) d.2 (j : Int) = factAt d j := Y14 c;simp only [zS, u, Y1 b, Y1 c, v, w, r, Y0 (j := j), Y0 (j := k)];rw [J16, List.flatMap_append];cases e : meetA (atomAt q.2.1 k) (factAt d j) x with
    | none => grind
    | some z =>
     obtain rfl := s z e;have D := Y1x (as := q.2.1) p m (k + 1) y (a ++ [(j : Int)]);simp only [Option.isSome_some, J5, J2f, List.flatMap_nil, e, Jm];rw [Y4, grd_true, Y4, grd_true, Y6o h l m f (k + 1) y (a ++ [(j : Int)]) om om ((Y5p e).trans hx) (by simp; omega), J0, Y4, grd_true]
   ·left;have : j = d.2.length :=om;subst this;simp [J1];rfl) N 0 om om
  exact this
theorem Y8v {N n : Nat} {d : Db} {as : List Atm} (h : QOk d n as) (b : 1048576 < N) {k i : Nat} (a : k < as.length) (hi : i < d.2.length) (e : (factAt d i).1 = (atomAt as k).1) {x : List Int} (g : x.length = n) : ∃ y, Z8q N x (atomAt as k).2 (factAt d i).2 = some (y, (meetA (atomAt as k) (factAt d i) x).isSome) /\ ∀ z, meetA (atomAt as k) (factAt d i) x = some z -> y = z := by
 have f := h.n4;obtain ⟨j, l⟩ := h.terms k a;have c := h.len k i a hi e;unfold Z8q Z0bt meetA;rw [Y2y om, J0, Je e];have := Y31 (N := N) (n := n) l c f j b N 0 x om om g;simpa using this
theorem Y6p {N n : Nat} {d : Db} {q : Qry} (h : QOk d n q.2.1) (A : 1048576 < N) : ∀ (m f k : Nat) (x b : List Int) (c : List (List Int × List Int)), m < f -> k + m = q.2.1.length -> x.length = n -> b.length = k -> c.length + 14 ^ m <= 100000 -> Z0t N f x b q c d q d = some (c ++ emb d q.2.1 m k x b)
 | _, 0, _, _, _, _, hf, _, _, _, _ => om
 | 0, f + 1, k, x, b, c, hf, hk, hx, hfs, ho => by
  have H := h.as3;have K := h.n4;have e : (b.length : Int) = (q.2.1.length : Int) :=om;simp only [zS, Z0t, Z4k, beqI, J2 e, Y2y (N := N) (s := x) om, Y2y (N := N) (s := b) om, emb];rw [Y4];rfl
 | m + 1, f + 1, k, x, b, c, hf, hk, hx, hfs, ho => by
  have H := h.as3;have K := h.n4;have I := h.few;have w : ¬ (b.length : Int) = (q.2.1.length : Int) :=om;have v : k < q.2.1.length :=om;have g : b.length < q.2.1.length :=om;have L := p14 (m := m) om;have F : at_ (0, []) q.2.1 (b.length : Int) = atomAt q.2.1 k := by rw [Y3 g, hfs.symm]; exact (Y2 g).symm
  rw [J1s] at ho;simp only [zS, Z0t, Z4k, beqI, J7 w, Y1 g, F];have := loop (fun t (j : Nat) => Z34 N (Z0t N f) t x b (c ++ (List.range j).flatMap fun i => match meetA (atomAt q.2.1 k) (factAt d i) x with
    | some y => emb d q.2.1 m (k + 1) y (b ++ [(i : Int)])
    | none => []) q d (atomAt q.2.1 k).1 (atomAt q.2.1 k).2 d.2 (d.2.length : Int) (j : Int)) (fun j => j <= d.2.length) (fun j => d.2.length - j) (fun o => o = some (c ++ emb d q.2.1 (m + 1) k x b)) (fun t j J => by
   simp only [Z34, Z5n];by_cases l : j < d.2.length
   ·right;refine ⟨j + 1, l, om, ?_⟩;have E : (j : Int) < (d.2.length : Int) :=om;have u : ∀ j, j <= 13 -> j < d.2.length -> ((List.range j).flatMap fun i => match meetA (atomAt q.2.1 k) (factAt d i) x with
      | some y => emb d q.2.1 m (k + 1) y (b ++ [(i : Int)])
      | none => []).length <= 13 * 14 ^ m := fun j p _ => by
     have := Y17 (n := 14 ^ m) (a := List.range j) (piece := fun i => match meetA (atomAt q.2.1 k) (factAt d i) x with
      | some y => emb d q.2.1 m (k + 1) y (b ++ [(i : Int)])
      | none => []) fun i _ => by
       split
       ·exact Y1x I m _ _ _
       ·simp
     rw [Js] at this;exact Jh this (J2c _ p)
    have B := u j om l;have G : at_ (0, []) d.2 (j : Int) = factAt d j := Y14 l;simp only [zS, E, Y1 l, G, bneI, Y0 (j := j)];rw [J16, List.flatMap_append];by_cases e : (factAt d j).1 = (atomAt q.2.1 k).1
    ·obtain ⟨y, C, D⟩ := Y8v h A v l e hx;rw [J2 e, J9, J1, C, J0];cases r : meetA (atomAt q.2.1 k) (factAt d j) x with
     | none => grind
     | some z =>
      obtain rfl := D z r;simp only [zS, Option.isSome_some, J2f, List.flatMap_nil, r, Jm, Y2y (N := N) (s := b) om];rw [Y4, grd_true, Y6p h A m f (k + 1) y (b ++ [(j : Int)]) _ om om ((Y5p r).trans hx) (by simp; omega) gr, J0, J17]
    ·have r : meetA (atomAt q.2.1 k) (factAt d j) x = none := by unfold meetA; rw [Jn e]
     rw [J7 e, J1i, J5];simp [r]
   ·left;have : j = d.2.length :=om;subst this;simp [J1];rfl) N 0 om om
  simpa using this
theorem Y8w {N n : Nat} (e : n <= 4) (d : 1048576 < N) : Z6w N (n : Int) = some (List.replicate n (-1)) := by
 have := loop (fun k (j : Nat) => Z7e N k (n : Int) (List.replicate j (-1))) (fun j => j <= n) (fun j => n - j) (fun o => o = some (List.replicate n (-1))) (fun k j c => by
  simp only [Z7e, Z0a0, J14];by_cases b : j < n
  ·right;refine ⟨j + 1, b, om, ?_⟩;have a : (j : Int) < (n : Int) :=om;rw [J2 a, J5, Y4 om gr, grd_true, List.replicate_succ']
  ·grind) N 0 om om
 exact this
theorem Y8x {N n : Nat} (a : n <= 4) : Z5m N (n : Int) = some (List.replicate n (-1)) := by
 unfold Z5m Z7j;have e : (decide (([-1] : List Int).length = 1) && (decide ((0 : Int) <= (n : Int)) && decide ((n : Int) * 8 <= 140737488355328))) = true := by
  rw [Jd, Jd, J3, J3, J3];exact ⟨rfl, om, om⟩
 rw [e, grd_true, Ji];rfl
def embs (d : Db) (q : Qry) : List (List Int × List Int) := if queryFor d q then emb d q.2.1 q.2.1.length 0 (List.replicate q.1.toNat (-1)) [] else []
theorem Y8y {d : Db} {q : Qry} (h : SmallDb d) (g : q.2.2.length <= 1048576) (b : 1048576 < N) : Z31 N d q = some (embs d q) := by
 unfold Z31 embs;rw [Y7 h g b, J0];cases a : queryFor d q with
 | false => rfl
 | true =>
  have c := qOk a;have f := c.n4;have j := c.as3;have i : 0 <= q.1 := by
   unfold queryFor validQ at a;simp at a;exact a.2.2.1.1
  have e : Z6w N q.1 = some (List.replicate q.1.toNat (-1)) := by
   have := Y8w (N := N) f b
   rwa [show ((q.1.toNat : Nat) : Int) = q.1 by omega] at this
  rw [J9, J1, e, J0, Je rfl];have := Y6o c b q.2.1.length N 0 (List.replicate q.1.toNat (-1)) [] om om sm rfl;rw [show ((0 : Nat) : Int) = 0 from rfl] at this;unfold Z8a;rw [this];rfl
theorem Y8z {d : Db} {q : Qry} (h : SmallDb d) (i : q.2.2.length <= 1048576) (c : 1048576 < N) : Z30 N d q = some (embs d q) := by
 unfold Z30 embs;rw [Y2e h i c, J0];cases a : queryFor d q with
 | false => rfl
 | true =>
  have b := qOk a;have g := b.n4;have f := b.as3;have j : 0 <= q.1 := by
   unfold queryFor validQ at a;simp at a;exact a.2.2.1.1
  have e : Z5m N q.1 = some (List.replicate q.1.toNat (-1)) := by
   have := Y8x (N := N) g
   rwa [show ((q.1.toNat : Nat) : Int) = q.1 by omega] at this
  have k := p14 f;rw [J9, J1, e, J0, Je rfl];have := Y6p b c q.2.1.length N 0 (List.replicate q.1.toNat (-1)) [] [] om om sm rfl (by simp; omega);unfold Z2x;rw [this];rfl
theorem Y4l {d : Db} {l : List Int} (h : SmallDb d) (a : ∀ x ∈ l, 0 <= x /\ x < (d.2.length : Int)) (e : l.length <= 14) : SmallDb (subDb d l) := ⟨h.rels, by simp [subDb]; omega, fun f b => by
  obtain ⟨x, c, rfl⟩ := J8.1 b;have := a x c;exact Yp h om⟩
def putIn (l : List Int) (x : Int) : Nat -> List Int
 | 0 => x :: l
 | k + 1 => if l.getD k 0 > x then putIn l x k else l.take (k + 1) ++ x :: l.drop (k + 1)
theorem Y18 (l : List Int) (x : Int) : ∀ k, k <= l.length -> ∃ j, j <= k /\ putIn l x k = l.take j ++ x :: l.drop j /\ (∀ i (hi : i < l.length), j <= i -> i < k -> l[i] > x) /\ (0 < j -> ∃ (n : j - 1 < l.length), ¬ l[j - 1] > x)
 | 0, _ => ⟨0, Jx _, by simp [putIn], fun i hi f c => by omega, fun h => om⟩
 | k + 1, hk => by
  have a : k < l.length :=om;simp only [putIn, Y2 a];by_cases h : l[k] > x
  ·rw [Je h];obtain ⟨j, f, c, g, m⟩ := Y18 l x k om;refine ⟨j, om, c, fun i hi b d => ?_, m⟩;by_cases e : i = k
   ·subst e; exact h
   ·exact g i hi b om
  ·rw [Jn h];exact ⟨k + 1, Jx _, rfl, fun i hi b d => by omega, fun _ => ⟨om, by simpa using h⟩⟩
theorem Y4m {l : List Int} {x y : Int} : y ∈ putIn l x l.length ↔ y = x \/ y ∈ l := by
 obtain ⟨j, _, e, _, _⟩ := Y18 l x l.length (Jx _);rw [e, J29, Jv];have a : y ∈ l ↔ y ∈ l.take j \/ y ∈ l.drop j := by
  conv => lhs; rw [<- List.take_append_drop j l]
  rw [J29]
 rw [a];constructor
 ·rintro (h | h | h)
  ·exact .inr (.inl h)
  ·exact .inl h
  ·exact .inr (.inr h)
 ·rintro (h | h | h)
  ·exact .inr (.inl h)
  ·exact .inl h
  ·exact .inr (.inr h)
theorem Y4n {l : List Int} {x : Int} : (putIn l x l.length).length = l.length + 1 := by
 obtain ⟨j, a, e, _, _⟩ := Y18 l x l.length (Jx _);rw [e];simp only [J13, J19, Jy, List.length_drop];omega
def sortI : List Int -> List Int -> List Int
 | [], out => out
 | x :: l, out => sortI l (putIn out x out.length)
theorem Y4o {N k : Nat} {l a : List Int} {s : Nat} (b : s < l.length) (g : l.length <= 1000) (i : a.length <= 1000) : ∀ (f t : Nat), t < f -> t <= a.length -> Z2q (Z0z N k) N f l a (s : Int) (t : Int) = Z0z N k l (putIn a l[s] t) ((s + 1 : Nat) : Int)
 | 0, t, hf, _ => om
 | f + 1, 0, hf, ht => by
  have c : ¬ ((0 : Nat) : Int) > 0 :=om;simp only [zS, Z2q, Z48, c, Ji, Y1 b, Y3 b];rw [show subOk 0 ((0 : Nat) : Int) a.length = true by simp [subOk], grd_true, Y4, grd_true, Y4, grd_true, show subOk ((0 : Nat) : Int) (a.length : Int) a.length = true by simp [subOk], grd_true, Y4, grd_true, Y0];simp [putIn]
 | f + 1, t + 1, hf, ht => by
  have c : ((t + 1 : Nat) : Int) > 0 :=om;have d : t < a.length := ht;have e : w64 (((t + 1 : Nat) : Int) - 1) = (t : Int) := by rw [Y5]; omega
  simp only [zS, Z2q, Z48, c, e, Y1 d, Y3 d, Y1 b, Y3 b, putIn, Y2 d, Ji];by_cases h : a[t] > l[s]
  ·rw [J2 h, J5, Je h];exact Y4o b g i f t om om
  ·rw [J7 h, J1, Jn h];rw [show subOk 0 ((t + 1 : Nat) : Int) a.length = true by simp [subOk]; omega, grd_true, Y4, grd_true, Y4, grd_true, show subOk ((t + 1 : Nat) : Int) (a.length : Int) a.length = true by simp [subOk]; omega, grd_true, Y4, grd_true, Y0];simp
theorem Y4p : ∀ (l a : List Int), (sortI l a).length = l.length + a.length
 | [], a => by simp [sortI]
 | x :: l, a => by rw [sortI, Y4p l, Y4n]; simp; omega
theorem Yn {y : Int} : ∀ (l a : List Int), y ∈ sortI l a ↔ y ∈ l \/ y ∈ a
 | [], a => by simp [sortI]
 | x :: l, a => by rw [sortI, Yn l, Y4m, Jv, or_left_comm, or_assoc]
theorem Y4q {N : Nat} {l : List Int} (d : l.length <= 900) (c : 1048576 < N) : ∀ (f s : Nat) (a : List Int), l.length - s < f -> s <= l.length -> a.length = s -> Z0z N f l a (s : Int) = some (sortI (l.drop s) a)
 | 0, s, a, hf, _, _ => om
 | f + 1, s, a, hf, hs, ho => by
  simp only [Z0z, Z5p];by_cases h : s < l.length
  ·have b : (s : Int) < (l.length : Int) :=om;rw [J2 b, J5, Y4o h om om N a.length om (Jx _), Y4q d c f (s + 1) _ om h (by rw [Y4n, ho]), Ja h, sortI]
  ·have b : ¬ (s : Int) < (l.length : Int) :=om;rw [J7 b, J1, List.drop_eq_nil_of_le om, sortI]
theorem Y5q {l : List Int} (b : l.length <= 900) (a : 1048576 < N) : Z19 N l = some (sortI l []) := by
 have := Y4q b a N 0 [] om om rfl;simpa [Z19, Z98] using this
theorem Y5r {l : List Int} {x : Int} (t : l.Pairwise (· < ·)) (u : x ∉ l) : (putIn l x l.length).Pairwise (· < ·) := by
 obtain ⟨j, v, e, o, p⟩ := Y18 l x l.length (Jx _);rw [e];have c : (l.take j ++ l.drop j).Pairwise (· < ·) := by simp_all
 rw [List.pairwise_append] at c;rw [List.pairwise_append, J1a];have m : ∀ a ∈ l.take j, a < x := by
  intro a f;obtain ⟨i, hi, rfl⟩ := Jg.1 f;have q : i < j :=gr;obtain ⟨g, r⟩ := p om;rw [J22];have s : l[j - 1] ≠ x := fun e => u (e ▸ J4 g);have d : i < l.length :=om;have : l[i] <= l[j - 1] := by
   by_cases h : i = j - 1
   ·grind
   ·have := Jo.1 t i (j - 1) d g om;omega
  omega
 have k : ∀ a ∈ l.drop j, x < a := by
  intro a f;obtain ⟨i, hi, rfl⟩ := Jg.1 f;rw [List.getElem_drop];have d : j + i < l.length :=gr;exact o (j + i) d om d
 refine ⟨c.1, ⟨k, c.2.1⟩, fun a f b n => ?_⟩;rcases Jv.1 n with rfl | n
 ·exact m a f
 ·grind
theorem Y11 : ∀ (l a : List Int), l.Nodup -> (∀ x ∈ l, x ∉ a) -> a.Pairwise (· < ·) -> (sortI l a).Pairwise (· < ·)
 | [], a, _, _, hs => hs
 | x :: l, a, hn, hd, hs => by
  rw [List.nodup_cons] at hn;refine Y11 l _ hn.2 (fun y b h => ?_) (Y5r hs (hd x J2d));rcases Y4m.1 h with rfl | h
  ·exact hn.1 b
  ·grind
def chain (d : Db) (as : List Atm) : Nat -> List Int -> List Int -> Option (List Int)
 | _, x, [] => some x
 | k, x, g :: gs => match meetA (atomAt as k) (factAt d g.toNat) x with
  | some y => chain d as (k + 1) y gs
  | none => none
theorem Yy {d : Db} {as : List Atm} {e : List Int × List Int} : ∀ (m k : Nat) (x l : List Int), e ∈ emb d as m k x l ↔ ∃ c : List Int, c.length = m /\ (∀ g ∈ c, 0 <= g /\ g < (d.2.length : Int)) /\ chain d as k x c = some e.1 /\ e.2 = l ++ c
 | 0, k, x, l => by
  simp only [emb, List.mem_singleton];constructor
  ·rintro rfl
   exact ⟨[], rfl, sm, rfl, sm⟩
  ·rintro ⟨c, h, -, f, j⟩
   have : c = [] := J1z.1 h;subst this;simp only [chain, J20] at f;obtain ⟨a, b⟩ := e;simp only [Jm] at j;simp only at f;rw [f, j]
 | m + 1, k, x, l => by
  simp only [emb, List.mem_flatMap, Jf];constructor
  ·rintro ⟨i, hi, p⟩
   split at p
   ·rename_i y r;obtain ⟨c, h, n, f, j⟩ := (Yy m (k + 1) y (l ++ [(i : Int)])).1 p;refine ⟨(i : Int) :: c, by simp [h], fun g o => ?_, ?_, by rw [j, J17]; rfl⟩
    ·rcases Jv.1 o with rfl | o
     ·omega
     ·exact n g o
    ·simp only [chain, Ji, r];exact f
   ·cases p
  ·rintro ⟨c, h, n, f, j⟩
   match c with
   | [] => simp at h
   | g :: c =>
    have o := n g J2d;refine ⟨g.toNat, om, ?_⟩;simp only [chain] at f;split at f
    ·rename_i y r
     try simp only [r]
     refine (Yy m (k + 1) y _).2 ⟨c, by simpa using h, fun g' q => n g' (List.mem_cons_of_mem _ q), f, ?_⟩;rw [j, J17, show ((g.toNat : Nat) : Int) = g by omega];rfl
    ·cases f
theorem Y2n {d : Db} {as : List Atm} : ∀ (a : List Int) (k : Nat) (x y : List Int), chain d as k x a = some y -> ∀ j (h : j < a.length), (factAt d (a[j]).toNat).1 = (atomAt as (k + j)).1
 | [], k, x, y, _, j, h => by simp at h
 | g :: a, k, x, y, hc, j, h => by
  simp only [chain] at hc;split at hc
  ·rename_i z b;cases j with
   | zero =>
    unfold meetA at b;split at b
    ·rename_i e; exact e
    ·cases b
   | succ j =>
    have := Y2n a (k + 1) z y hc j (by simpa using h);rw [show k + (j + 1) = k + 1 + j by omega];exact this
  ·cases hc
theorem Y2o {d : Db} {as : List Atm} {s : List Int} : ∀ (a : List Int) (k : Nat) (x : List Int), (∀ g ∈ a, 0 <= g /\ g < (s.length : Int)) -> chain (subDb d s) as k x a = chain d as k x (a.map fun g => s.getD g.toNat 0)
 | [], k, x, _ => rfl
 | g :: a, k, x, h => by
  have e := h g J2d;have c : g.toNat < s.length :=om;simp only [chain, J24, Yj c, Y2 c];split
  ·exact Y2o a _ _ fun g' b => h g' (List.mem_cons_of_mem _ b)
  ·rfl
theorem Y69 {d : Db} {q : Qry} (h : queryFor d q = true) {i j : Nat} (hi : i < j) (g : j < q.2.1.length) : (atomAt q.2.1 i).1 ≠ (atomAt q.2.1 j).1 := by
 unfold queryFor validQ at h;simp only [Jd, J3] at h;obtain ⟨_, _, _, _, f, _, _⟩ := h;have a : atomOk d.1 q.1.toNat q.2.1 j = true := of_decide_eq_true f j g;unfold atomOk at a;simp only [Jd, J3] at a;have b := a.2.2.1;unfold newRel at b;rw [J21, J2g] at b;intro e;refine b (atomAt q.2.1 i) ?_ (J2 e);have c : i < q.2.1.length :=om;unfold atomAt;rw [Y2 c];exact Jg.2 ⟨i, by simp; omega, by rw [J22]⟩
structure EmbOk (d : Db) (e : List Int × List Int) : Prop where
 few : e.2.length <= 3
 ins : ∀ x ∈ e.2, 0 <= x /\ x < (d.2.length : Int)
 apart : ∀ i j (hi : i < j) (hj : j < e.2.length), (factAt d (e.2[i]' om).toNat).1 ≠ (factAt d (e.2[j]).toNat).1
theorem Y2p {d : Db} {q : Qry} {e : List Int × List Int} (c : e ∈ embs d q) : queryFor d q = true /\ EmbOk d e := by
 unfold embs at c;split at c
 ·rename_i h;obtain ⟨o, p, n, f, g⟩ := (Yy _ _ _ _).1 c;rw [J1x] at g;have r := (qOk h).as3;obtain ⟨a, b⟩ := e;simp only at g f;subst g;refine ⟨h, ⟨by simp only; omega, n, fun i j hi k => ?_⟩⟩;simp only at k;have l := Y2n b 0 _ _ f i om;have m := Y2n b 0 _ _ f j k;rw [Nat.zero_add] at l m;simp only;rw [l, m];exact Y69 h hi om
 ·cases c
theorem EmbOk.nodup {d : Db} {e : List Int × List Int} (h : EmbOk d e) : e.2.Nodup := by
 rw [List.Nodup, Jo];intro i j hi c a b;exact h.apart i j a c (by rw [b])
theorem Y81 {d : Db} {q : Qry} {s : List Int} (o : validDb d = true) (F : s.Pairwise (· < ·)) (m : ∀ x ∈ s, 0 <= x /\ x < (d.2.length : Int)) (C : s.length <= 14) : (embs (subDb d s) q).length > 0 ↔ ∃ e ∈ embs d q, ∀ x ∈ e.2, x ∈ s := by
 have E : queryFor (subDb d s) q = queryFor d q := by
  unfold queryFor;rw [o, Y2j o F m C];rfl
 have f : (subDb d s).2.length = s.length := by simp [subDb]
 unfold embs;rw [E];by_cases h : queryFor d q = true
 ·rw [Je h, Je h];constructor
  ·intro D;obtain ⟨e, v⟩ := List.exists_mem_of_length_pos D;obtain ⟨b, t, p, r, u⟩ := (Yy _ _ _ _).1 v;rw [f] at p;rw [Y2o b _ _ p] at r;have A : ∀ g ∈ b, s.getD g.toNat 0 ∈ s := fun g l => by
    have := p g l;rw [Y2 (show g.toNat < s.length by omega)];exact J4 _
   refine ⟨(e.1, b.map fun g => s.getD g.toNat 0), (Yy _ _ _ _).2 ⟨b.map fun g => s.getD g.toNat 0, by simpa using t, fun g l => ?_, r, sm⟩, fun x c => ?_⟩
   ·obtain ⟨g', i, rfl⟩ := J8.1 l;exact m _ (A g' i)
   ·obtain ⟨g', i, rfl⟩ := J8.1 c;exact A g' i
  ·rintro ⟨e, v, k⟩
   obtain ⟨b, t, p, r, u⟩ := (Yy _ _ _ _).1 v;rw [J1x] at u;rw [u] at k;have y : ∀ x, x ∈ s -> ∃ j, j < s.length /\ s.getD j 0 = x := fun x c => by
    obtain ⟨j, z, e⟩ := Jg.1 c;exact ⟨j, z, by rw [Y2 z, e]⟩
   have w : ∀ x ∈ b, (s.idxOf x) < s.length /\ s.getD (s.idxOf x) 0 = x := fun x c => by
    have := List.idxOf_lt_length_of_mem (k x c);exact ⟨this, by rw [Y2 this]; exact List.getElem_idxOf this⟩
   have n : (b.map fun x => ((s.idxOf x : Nat) : Int)).map (fun g => s.getD g.toNat 0) = b := by
    rw [List.map_map]
    conv => rhs; rw [<- List.map_id b]
    exact J1k fun x c => by simpa using (w x c).2
   have B : ∀ g ∈ b.map (fun x => ((s.idxOf x : Nat) : Int)), 0 <= g /\ g < (s.length : Int) := fun g l => by
    obtain ⟨x, c, rfl⟩ := J8.1 l;have := (w x c).1;omega
   refine List.length_pos_of_mem (a := (e.1, b.map fun x => ((s.idxOf x : Nat) : Int))) ((Yy _ _ _ _).2 ⟨b.map fun x => ((s.idxOf x : Nat) : Int), by simpa using t, by rw [f]; exact B, ?_, sm⟩);rw [Y2o _ _ _ B, n];exact r
 ·rw [Jn h, Jn h];simp
def cov (d : Db) (q : Qry) (s : List Int) : Bool := (embs d q).any fun e => e.2.all fun x => decide (x ∈ s)
def need (d : Db) (q : Qry) : List (List Int) := (embs d q).map fun e => sortI e.2 []
theorem Y4r {d : Db} {q : Qry} {s : List Int} (b : validDb d = true) (e : s.Pairwise (· < ·)) (a : ∀ x ∈ s, 0 <= x /\ x < (d.2.length : Int)) (c : s.length <= 14) : decide (((embs (subDb d s) q).length : Int) > 0) = cov d q s := by
 rw [Ju, J3];unfold cov;simp only [J18, Jp, J3];rw [show (((embs (subDb d s) q).length : Int) > 0) ↔ (embs (subDb d s) q).length > 0 by omega, Y81 b e a c]
theorem Y1l {d : Db} {q : Qry} : (embs d q).length <= 2744 := by
 unfold embs;split
 ·rename_i h;have a := qOk h;exact Jh (Y1x a.few _ _ _ _) (p14 a.as3)
 ·simp
theorem Y1y {d : Db} {q : Qry} {e : List Int × List Int} (c : e ∈ embs d q) : (sortI e.2 []).Pairwise (· < ·) /\ (∀ x ∈ sortI e.2 [], 0 <= x /\ x < (d.2.length : Int)) /\ (sortI e.2 []).length <= 3 := by
 obtain ⟨h, b⟩ := Y2p c;refine ⟨Y11 _ _ b.nodup sm List.Pairwise.nil, fun x a => ?_, ?_⟩
 ·rw [Yn] at a;rcases a with a | a
  ·exact b.ins x a
  ·cases a
 ·have := b.few;rw [Y4p]; simp; omega
theorem Y75 {d : Db} {e : List Int × List Int} (c : EmbOk d e) : ∀ x ∈ sortI e.2 [], ∀ y ∈ sortI e.2 [], x ≠ y -> (factAt d x.toNat).1 ≠ (factAt d y.toNat).1 := by
 intro x a y b g;rw [Yn] at a b;have a := a.resolve_right sm;have b := b.resolve_right sm;obtain ⟨i, hi, rfl⟩ := Jg.1 a;obtain ⟨j, f, rfl⟩ := Jg.1 b;rcases Nat.lt_trichotomy i j with h | h | h
 ·exact c.apart i j h f
 ·grind
 ·exact fun e => c.apart j i h hi e.symm
theorem Y76 {d : Db} {q : Qry} {e : List Int × List Int} (h : SmallDb d) (r : e ∈ embs d q) (n : 1048576 < N) : Z1s N d (sortI e.2 []) = some true := by
 obtain ⟨o, u⟩ := Y2p r;obtain ⟨l, m, v⟩ := Y1y r;have j : validDb d = true := by unfold queryFor at o; rw [Jd] at o; exact o.1
 have f := Y75 u;generalize sortI e.2 [] = w at l m v f;have b := Y2j j l m om;have i := Y4l h m om;have a : (subDb d w).2.length = w.length := by simp [subDb]
 have p : (blocksOf (subDb d w)).length = w.length := by
  unfold blocksOf;rw [Je b, Jb];unfold B;rw [Jb, a];unfold sts;rw [List.filter_eq_self.2, Js];intro s g;have g := Jf.1 g;rw [Ya];intro k t;have c : k < w.length :=om;have x := Jo.1 l k s c g t;have := f _ (J4 g) _ (J4 c) om;unfold sameD sameK;rw [Yj g, Yj c, J7 this, J1j]
 unfold Z1s;rw [Y6n h j l m om n, J0];simp [J5];unfold Z4s;rw [Ys i n, J0, b, J5, Yq i n, J0, p, a];simp
theorem Yv {d : Db} {q : Qry} (h : SmallDb d) (n : q.2.2.length <= 1048576) (c : 1048576 < N) : Z14 N d q = some (need d q) := by
 have f := Y1l (d := d) (q := q);unfold Z14 Z0ac;rw [Y8y h n c, J0];have := loop (fun k (s : Nat) => Z66 N k d.1 d.2 (((embs d q).take s).map fun e => sortI e.2 []) (embs d q) (s : Int)) (fun s => s <= (embs d q).length) (fun s => (embs d q).length - s) (fun o => o = some (need d q)) (fun k j l => by
  simp only [Z66, Z94];by_cases a : j < (embs d q).length
  ·right;refine ⟨j + 1, a, om, ?_⟩;have b : (j : Int) < ((embs d q).length : Int) :=om;have g := J4 a;have i := (Y2p g).2.few;have m : Z1s N (d.1, d.2) (sortI ((embs d q)[j]).2 []) = some true := Y76 h g c;simp only [zS, b, Y1 a, Y3 a];rw [Y5q om c, J0, m, J0, J5, Y4, grd_true, Y0, J6 a, Jk];rfl
  ·left;have b : ¬ (j : Int) < ((embs d q).length : Int) :=om;simp only [zS, b];rw [J1p om];rfl) N 0 om om
 exact this
theorem Y3j {N k : Nat} {l : List (List Int)} {s : List Int} (e : s.length <= 1048576) (d : 1048576 < N) {i : Nat} (hi : i < l.length) (a : i <= 1048576) : ∀ (f t : Nat) (b : Bool), (l[i]).length - t < f -> t <= (l[i]).length -> (l[i]).length <= 1048576 -> Z8d (Z3k N k) N f l s (i : Int) b (t : Int) = if (b && ((l[i]).drop t).all fun x => decide (x ∈ s)) then some true else Z3k N k l s ((i + 1 : Nat) : Int)
 | 0, t, b, hf, _, _ => om
 | f + 1, t, b, hf, ht, hw => by
  simp only [Z8d, Z0ae, Y1 hi, Y3 hi, grd_true];by_cases h : t < (l[i]).length
  ·have c : (t : Int) < ((l[i]).length : Int) :=om;rw [J2 c, J5, Y1 h, Y3 h, grd_true, Y0, Ja h, List.all_cons];cases b with
   | false =>
    rw [J1, Y3j e d hi a f (t + 1) false om h hw];simp
   | true =>
    rw [J5, Y6k e d, J0, Y3j e d hi a f (t + 1) _ om h hw];simp
  ·have c : ¬ (t : Int) < ((l[i]).length : Int) :=om;rw [J7 c, J1, List.drop_eq_nil_of_le om, Y0];cases b <;> simp
theorem Y37 {l : List (List Int)} {s : List Int} (f : s.length <= 1048576) (o : l.length <= 1048576) (b : ∀ w ∈ l, w.length <= 1048575) (e : 1048576 < N) : Z2y N l s = some (l.any fun w => w.all fun x => decide (x ∈ s)) := by
 unfold Z2y Z29 Z0bf;rw [Yf (n := l.length) (fun j => !((l.getD j []).all fun x => decide (x ∈ s))) (some true) (some false) (fun k i => Z3k N k l s i) (fun k => by simp [Z3k, Z8s]) (fun k j a => ?_) om]
 ·by_cases h : (l.any fun w => w.all fun x => decide (x ∈ s)) = true
  ·rw [h, Jn, J0];intro c;obtain ⟨w, b, g⟩ := J18.1 h;obtain ⟨j, a, rfl⟩ := Jg.1 b;have := c j a;rw [Y2 a, g] at this;cases this
  ·grind
 ·have d : (j : Int) < (l.length : Int) :=om;have m := b _ (J4 a);simp only [zS, Z3k, Z8s, d];have := Y3j (k := k) (l := l) f e a om N 0 true om om om;rw [List.drop_zero, Jc] at this;rw [show ((0 : Nat) : Int) = 0 from rfl] at this;rw [this, Y2 a];cases (l[j].all fun x => decide (x ∈ s)) <;> simp
theorem Y32 {d : Db} {q : Qry} {s : List Int} (f : s.length <= 1048576) (b : 1048576 < N) : Z2y N (need d q) s = some (cov d q s) := by
 have a := Y1l (d := d) (q := q);rw [Y37 f (by unfold need; rw [Jb]; omega) (fun w g => by
  obtain ⟨e, c, rfl⟩ := J8.1 g;have := (Y1y c).2.2;omega) b]
 unfold need cov;rw [List.any_map];congr 1;apply congrArg (fun p => List.any (embs d q) p);funext e;simp;rw [Ju];simp [Jp, Yn]
structure Some (d : Db) (l : List Con) (ss : List (List Int)) : Prop where
 few : ss.length <= 16384
 sub : ∀ r ∈ ss, r ∈ subsets d l
theorem Y5s : ∀ (C : List (List Int)) (k : Nat), repR C k = nth C k
 | [], k => rfl
 | c :: C, k => by simp only [repR, nth, Y5s C]
theorem Y9z (L : List (List Int)) (k : Nat) : repOf L k = repN L k := by unfold repOf repN; rw [Y5s]
theorem Y6q : ∀ L : List (List Int), prodL L = sizeP L
 | [] => rfl
 | b :: L => by simp only [prodL, sizeP, Y6q L]
theorem Y38 {l : List Int} (h : l.Nodup) : l.mergeSort (fun a b => decide (a <= b)) = sortI l [] := by
 refine Y1f ?_ (Y11 l [] h (fun x f => sm) List.Pairwise.nil) (fun x => by rw [List.mem_mergeSort, Yn]; simp);have d : (l.mergeSort fun a b => decide (a <= b)).Pairwise (fun a b => decide (a <= b) = true) := List.pairwise_mergeSort (fun a b c d e => by simp at *; omega) (fun a b => gr) l;have e : (l.mergeSort fun a b => decide (a <= b)).Nodup := (List.mergeSort_perm l _).nodup_iff.2 h;exact (d.and e).imp fun {a b} h => gr
theorem Y5t {N : Nat} {es : List (List Int × List Int)} (b : es.length <= 2744) (a : ∀ e ∈ es, e.2.length <= 3 /\ e.2.Nodup) : ∀ (f j : Nat) (m : Int), es.length - j < f -> j <= es.length -> m <= j -> Z64 N f ((es.take j).map fun e => sortI e.2 []) es m (es.length : Int) (j : Int) = some (es.map fun e => sortI e.2 [])
 | 0, j, m, h, _, _ => om
 | f + 1, j, m, h, hj', hm => by
  simp only [Z64, Z92];by_cases c : j < es.length
  ·have g : (j : Int) < (es.length : Int) :=om;have i := a _ (J4 c);have d : Z1d N (es[j]).2 = some (sortI (es[j]).2 []) := by
    unfold Z1d;rw [J2 om, grd_true, Y38 i.2]
   simp only [zS, g, J2 hm, Jc, Y1 c, Y3 c];rw [d, J0, Y4 sm (by simp; omega), grd_true, Y0];have := Y5t (N := N) b a f (j + 1) ((j : Int) + 1) om c om;rw [J6 c, Jk] at this;exact this
  ·grind
theorem Y4y {d : Db} {q : Qry} (h : SmallDb d) (o : q.2.2.length <= 1048576) (n : 1048576 < N) : Z53 N d q = some (need d q) := by
 have b := Y1l (d := d) (q := q);unfold Z53 Z0aa;rw [Y8z h o n, J0];have a : ∀ e ∈ embs d q, e.2.length <= 3 /\ e.2.Nodup := fun e f => ⟨(Y2p f).2.few, (Y2p f).2.nodup⟩;obtain ⟨M, rfl⟩ : ∃ M, N = M + 1 := ⟨N - 1, om⟩;simp only [Z7y, Z93];by_cases c : 0 < (embs d q).length
 ·have m : (0 : Int) < ((embs d q).length : Int) :=om;have f := a _ (J4 c);have k : Z1d (M + 1) ((embs d q)[0]).2 = some (sortI ((embs d q)[0]).2 []) := by
   unfold Z1d;rw [J2 om, grd_true, Y38 f.2]
  have i : inb 0 (embs d q) = true := Y1 (j := 0) c;have g : at_ ([], []) (embs d q) 0 = (embs d q)[0] := Y3 (j := 0) c;rw [J2 m, J5, i, grd_true, g, k, J0, Y4 sm sm, grd_true];have := Y5t (N := M + 1) b a M 1 1 om c om;rw [J6 c] at this;exact this
 ·have l : embs d q = [] := J1z.1 om;unfold need;rw [l];rfl
theorem Ya0 {a s : List Int} (g : a.length <= 1048576) (f : s.length <= 1048576) (e : 1048576 < N) : Z5z N a s = some (a.all fun x => decide (x ∈ s)) := by
 unfold Z5z Z0h Z0m Z2v;rw [Yk (d := (0 : Int)) (xs := a) (p := fun x => !decide (x ∈ s)) (first (n := a.length) (fun j => !decide (a.getD j 0 ∈ s)) (fun k i => Z0g N k a s (a.length : Int) i) (fun k => by simp [Z0g, Z13]) (fun k j b => ?_) om)]
 ·grind
 ·have c : (j : Int) < (a.length : Int) :=om;simp only [zS, Z0g, Z13, Z55, c, Y1 b, Y3 b, Y2 b, Y9u f e, Y0 (j := j)];cases decide (a[j] ∈ s) <;> rfl
theorem Y6a {l : List (List Int)} {s : List Int} (e : s.length <= 1048576) (h : l.length <= 1048576) (f : ∀ w ∈ l, w.length <= 1048575) (c : 1048576 < N) : Z45 N l s = some (l.any fun w => w.all fun x => decide (x ∈ s)) := by
 unfold Z45 Z0c Z0i Z24;rw [Yk (d := ([] : List Int)) (xs := l) (p := fun w => w.all fun x => decide (x ∈ s)) (first (n := l.length) (fun j => (l.getD j []).all fun x => decide (x ∈ s)) (fun k i => Z0b N k l s (l.length : Int) i) (fun k => by simp [Z0b, Z0x]) (fun k j a => ?_) om)]
 ·rfl
 ·have b : (j : Int) < (l.length : Int) :=om;have g := f _ (J4 a);simp only [zS, Z0b, Z0x, Z4r, b, Y1 a, Y3 a, Y2 a, Ya0 (show (l[j]).length <= 1048576 by omega) e c, Y0 (j := j)];cases ((l[j]).all fun x => decide (x ∈ s)) <;> rfl
theorem Ya1 {d : Db} {q : Qry} {s : List Int} (f : s.length <= 1048576) (b : 1048576 < N) : Z45 N (need d q) s = some (cov d q s) := by
 have g := Y1l (d := d) (q := q);have h := Y6a (N := N) (l := need d q) f (by unfold need; rw [Jb]; omega) (fun w a => by
  unfold need at a;obtain ⟨e, c, rfl⟩ := J8.1 a;have := (Y1y c).2.2;omega) b
 have i := Y37 (N := N) (l := need d q) f (by unfold need; rw [Jb]; omega) (fun w a => by
  obtain ⟨e, c, rfl⟩ := J8.1 a;have := (Y1y c).2.2;omega) b
 rw [h, <- i, Y32 f b]
def ones (n : Nat) : List Int := List.replicate n 1
theorem Yb {d : Db} (hv : validDb d = true) : Good1 d (ones d.2.length) := by
 refine Y1n ?_;unfold validWeights weightsIn ones;rw [hv, J14];simp
theorem Y9e {d : Db} (hv : validDb d = true) : Parts d.2.length (sameD d) (blocksOf d) := by
 have i := runs (Y9 hv);have e := Y1t hv;have j := Y3s hv;have a := (Yb hv).blks;refine ⟨fun b a => (Y2d hv b a).1, j, ?_, fun x r h => ?_, fun b a x f y g => ?_, ?_, i.symm⟩
 ·have := a.flat;rw [List.pairwise_flatten] at this;exact this.2
 ·have : x ∈ (blocksOf d).flatten := by
   rw [e];unfold toI;exact J8.2 ⟨x.toNat, by rw [Jf]; omega, om⟩
  obtain ⟨b, k1, o⟩ := J2h.1 this;exact ⟨b, k1, o⟩
 ·unfold blocksOf at a;rw [Je hv] at a;obtain ⟨c, n, rfl⟩ := J8.1 a;obtain ⟨s, t, rfl⟩ := J8.1 n;unfold toI at f g;obtain ⟨p, k, rfl⟩ := J8.1 f;obtain ⟨q, l, rfl⟩ := J8.1 g;have h := (Jj.1 k).2;have m := (Jj.1 l).2;exact i.trans _ _ _ (i.symm _ _ h) m
 ·unfold blocksOf;rw [Je hv, J11];refine (Y9y i).imp fun h x f y g => ?_;unfold toI at f g;obtain ⟨p, k, rfl⟩ := J8.1 f;obtain ⟨q, l, rfl⟩ := J8.1 g;exact h p k q l
theorem Y2q {d : Db} (hv : validDb d = true) (k : Nat) : (repN (blocksOf d) k).Pairwise (· < ·) /\ picks (blocksOf d) (repN (blocksOf d) k) := by
 have a := (Yb hv).blks;unfold repN;refine ⟨?_, ?_⟩
 ·rw [J27];exact Y1g a.rev.1 a.rev.2
 ·have := Y29 (Y4h k a.rev.1)
  rwa [List.reverse_reverse] at this
def meets (b W : List Int) : Bool := b.any fun x => decide (x ∈ W)
theorem Y4s {a b : List Int} (l : a.length <= 1000) (m : b.length <= 1000) (g : 1048576 < N) : Z4u N a b = some (meets a b) := by
 unfold Z4u Z0au;exact Yg (fun K (j : Nat) => Z6z N K a b (j : Int)) (fun j => j <= a.length /\ (a.take j).any (fun x => decide (x ∈ b)) = false) (fun j => a.length - j) (fun o => o = some (meets a b)) (fun K j h i => by
  obtain ⟨k, f⟩ := h;simp only [Z6z, Z9p];by_cases d : j < a.length
  ·have c : (j : Int) < (a.length : Int) :=om;simp only [zS, c, Y1 d, Y3 d, Y6k (show b.length <= 1048576 by omega) g];by_cases e : a[j] ∈ b
   ·have : meets a b = true := by
     unfold meets;rw [J18];exact ⟨_, J4 d, by simpa using e⟩
    rw [J2 e, J5, this]
   ·rw [J7 e, J1, Y0];refine i (j + 1) ⟨d, ?_⟩ om;rw [J6 d, List.any_append, f];simp [e]
  ·have c : ¬ (j : Int) < (a.length : Int) :=om;rw [J1p om] at f;simp only [zS, c];unfold meets;rw [f]) N 0 om ⟨om, sm⟩
def leastW (L : List (List Int)) (mk W : List Int) : Nat -> Int
 | 0 => (L.length : Int)
 | k + 1 => if meets (L.getD k []) W then imin (leastW L mk W k) (mk.getD k 0) else leastW L mk W k
def setW (L : List (List Int)) (mk W : List Int) (m : Int) : Nat -> List Int
 | 0 => mk
 | k + 1 => if meets (L.getD k []) W then (setW L mk W m k).set k m else setW L mk W m k
def stepW (L : List (List Int)) (mk W : List Int) : List Int := setW L mk W (leastW L mk W L.length) L.length
def roundW (L need : List (List Int)) (mk : List Int) : List Int := need.foldl (stepW L) mk
def roundsW (L need : List (List Int)) (mk : List Int) : Nat -> List Int
 | 0 => mk
 | n + 1 => roundW L need (roundsW L need mk n)
theorem Y1m {L : List (List Int)} {mk W : List Int} {m : Int} : ∀ k, (setW L mk W m k).length = mk.length
 | 0 => rfl
 | k + 1 => by
  simp only [setW];split
  ·rw [J2b, Y1m k]
  ·exact Y1m k
theorem Yz {L : List (List Int)} {mk W : List Int} : (stepW L mk W).length = mk.length := Y1m _
theorem Y2r {L : List (List Int)} : ∀ {need : List (List Int)} {mk : List Int}, (need.foldl (stepW L) mk).length = mk.length
 | [], _ => rfl
 | W :: need, mk => by rw [J1n, Y2r, Yz]
theorem Y19 {L need : List (List Int)} {mk : List Int} : ∀ n, (roundsW L need mk n).length = mk.length
 | 0 => rfl
 | n + 1 => by
  simp only [roundsW, roundW];rw [Y2r, Y19 n]
theorem Y5u {L : List (List Int)} {mk W : List Int} {m : Int} {j : Nat} (b : j < mk.length) : ∀ k, (setW L mk W m k).getD j 0 = if j < k /\ meets (L.getD j []) W = true then m else mk.getD j 0
 | 0 => by simp [setW]
 | k + 1 => by
  have f := Y5u (L := L) (W := W) (m := m) b k;have c := Y1m (L := L) (mk := mk) (W := W) (m := m) k;simp only [setW];by_cases a : meets (L.getD k []) W = true
  ·rw [Je a];by_cases e : j = k
   ·subst e;rw [Y2 (by rw [J2b, c]; exact b), List.getElem_set_self, Je ⟨om, a⟩]
   ·rw [Y2 (by rw [J2b, c]; exact b), List.getElem_set_ne (fun h => e h.symm), <- Y2 (d := 0), f];congr 1;rw [eq_iff_iff];constructor <;> (intro h; exact ⟨om, h.2⟩)
  ·rw [Jn a, f];congr 1;rw [eq_iff_iff];constructor
   ·intro h; exact ⟨om, h.2⟩
   ·intro h;refine ⟨?_, h.2⟩;by_cases e : j = k
    ·rw [e] at h; exact absurd h.2 a
    ·omega
theorem Y1p {L : List (List Int)} {mk W : List Int} (b : mk.length = L.length) {j : Nat} (a : j < L.length) : (stepW L mk W).getD j 0 = if meets (L.getD j []) W = true then leastW L mk W L.length else mk.getD j 0 := by
 unfold stepW;rw [Y5u om];congr 1;rw [eq_iff_iff];exact ⟨fun h => h.2, fun h => ⟨a, h⟩⟩
theorem Y1q {L : List (List Int)} {mk W : List Int} : ∀ {n j : Nat}, j < n -> meets (L.getD j []) W = true -> leastW L mk W n <= mk.getD j 0
 | 0, j, h, _ => om
 | n + 1, j, h, hm => by
  simp only [leastW];by_cases e : j = n
  ·subst e;rw [Je hm];unfold imin;split <;> omega
  ·have := Y1q (L := L) (mk := mk) (W := W) (n := n) (j := j) om hm;split
   ·unfold imin;split <;> omega
   ·exact this
theorem Y1r {L : List (List Int)} {mk W : List Int} : ∀ n, leastW L mk W n = (L.length : Int) \/ ∃ j, j < n /\ meets (L.getD j []) W = true /\ leastW L mk W n = mk.getD j 0
 | 0 => .inl rfl
 | n + 1 => by
  simp only [leastW];split
  ·rename_i d;unfold imin;split
   ·exact .inr ⟨n, om, d, rfl⟩
   ·rcases Y1r (L := L) (mk := mk) (W := W) n with h | ⟨j, c, a, b⟩
    ·exact .inl h
    ·exact .inr ⟨j, om, a, b⟩
  ·rcases Y1r (L := L) (mk := mk) (W := W) n with h | ⟨j, c, a, b⟩
   ·exact .inl h
   ·exact .inr ⟨j, om, a, b⟩
def InR (n : Nat) (mk : List Int) : Prop := mk.length = n /\ ∀ j, j < n -> 0 <= mk.getD j 0 /\ mk.getD j 0 < (n : Int)
theorem Y3k {L : List (List Int)} {mk W : List Int} (b : mk.length = L.length) {j : Nat} (a : j < L.length) : (stepW L mk W).getD j 0 <= mk.getD j 0 := by
 rw [Y1p b a];split
 ·rename_i c;exact Y1q a c
 ·omega
theorem Y90 {L : List (List Int)} {mk W : List Int} (h : InR L.length mk) : InR L.length (stepW L mk W) := by
 refine ⟨by rw [Yz]; exact h.1, fun j a => ?_⟩;rw [Y1p h.1 a];split
 ·rename_i b;have d := Y1q (mk := mk) a b;have e := h.2 j a;rcases Y1r (L := L) (mk := mk) (W := W) L.length with f | ⟨i, c, g, k⟩
  ·omega
  ·have := h.2 i c;omega
 ·exact h.2 j a
def Closed (L : List (List Int)) (mk : List Int) (t : Int) (W : List Int) : Prop := ∀ i j, i < L.length -> j < L.length -> meets (L.getD i []) W = true -> meets (L.getD j []) W = true -> mk.getD i 0 <= t -> mk.getD j 0 <= t
theorem Y77 {L : List (List Int)} {mk W : List Int} {t : Int} (b : mk.length = L.length) (k : t < (L.length : Int)) (c : Closed L mk t W) {j : Nat} (a : j < L.length) : (stepW L mk W).getD j 0 <= t ↔ mk.getD j 0 <= t := by
 constructor
 ·rw [Y1p b a];split
  ·rename_i d;intro h;rcases Y1r (L := L) (mk := mk) (W := W) L.length with g | ⟨i, e, f, l⟩
   ·omega
   ·exact c i j e a f d om
  ·exact fun h => h
 ·intro h;have := Y3k (W := W) b a;omega
theorem Y5v {L : List (List Int)} : ∀ {need : List (List Int)} {mk : List Int}, InR L.length mk -> InR L.length (need.foldl (stepW L) mk)
 | [], _, h => h
 | W :: need, mk, h => by rw [J1n]; exact Y5v (Y90 h)
theorem Y3l {L : List (List Int)} : ∀ {need : List (List Int)} {mk : List Int}, mk.length = L.length -> ∀ {j : Nat}, j < L.length -> (need.foldl (stepW L) mk).getD j 0 <= mk.getD j 0
 | [], _, _, j, _ => J1h _
 | W :: need, mk, h, j, hj => by
  rw [J1n];have a := Y3k (W := W) h hj;have b := Y3l (need := need) (mk := stepW L mk W) (by rw [Yz]; exact h) hj;omega
theorem Y4t {L : List (List Int)} : ∀ {need : List (List Int)} {mk : List Int}, mk.length = L.length -> ∀ {W : List Int}, W ∈ need -> ∀ {i j : Nat}, i < L.length -> j < L.length -> meets (L.getD i []) W = true -> meets (L.getD j []) W = true -> (need.foldl (stepW L) mk).getD j 0 <= mk.getD i 0
 | [], _, _, W, a, _, _, _, _, _, _ => by simp at a
 | V :: need, mk, h, W, a, i, j, hi, hj, h1, h2 => by
  rw [J1n];rcases Jv.1 a with e | a
  ·subst e;have b := Y3l (need := need) (mk := stepW L mk W) (by rw [Yz]; exact h) hj;have a2 := Y1q (mk := mk) hi h1;rw [Y1p h hj, Je h2] at b;omega
  ·have b := Y4t (need := need) (mk := stepW L mk V) (by rw [Yz]; exact h) a hi hj h1 h2;have a2 := Y3k (W := V) h hi;omega
theorem Y12 {L : List (List Int)} {t : Int} (d : t < (L.length : Int)) : ∀ {need : List (List Int)} {mk : List Int}, mk.length = L.length -> (∀ W ∈ need, Closed L mk t W) -> ∀ {j : Nat}, j < L.length -> ((need.foldl (stepW L) mk).getD j 0 <= t ↔ mk.getD j 0 <= t)
 | [], _, _, _, j, _ => Iff.rfl
 | V :: need, mk, h, hc, j, a => by
  rw [J1n];have b : ∀ {j : Nat}, j < L.length -> ((stepW L mk V).getD j 0 <= t ↔ mk.getD j 0 <= t) := fun a => Y77 h d (hc V sm) a;rw [<- b a];refine Y12 d (by rw [Yz]; exact h) (fun W e i j hi a f g c => ?_) a;rw [b a];exact hc W (by simp [e]) i j hi a f g ((b hi).1 c)
theorem Y39 {i : Type} {p p' : i -> Bool} : ∀ {l : List i}, (∀ x ∈ l, p x = true -> p' x = true) -> (l.filter p).length <= (l.filter p').length /\ ((∃ x ∈ l, p' x = true /\ p x = false) -> (l.filter p).length < (l.filter p').length)
 | [], _ => sm
 | a :: l, h => by
  obtain ⟨k, f⟩ := Y39 (l := l) fun x b => h x (by simp [b]);have j := h a sm;rw [List.filter_cons, List.filter_cons];cases g : p a with
  | true =>
   rw [j g];simp only [if_true, Jy];refine ⟨om, fun ⟨x, b, k1, c⟩ => ?_⟩;rcases Jv.1 b with e | b
   ·rw [e, g] at c; cases c
   ·have := f ⟨x, b, k1, c⟩;omega
  | false =>
   cases d : p' a with
   | true =>
    simp only [Bool.false_eq_true, if_false, if_true, Jy];exact ⟨om, fun _ => om⟩
   | false =>
    simp only [Bool.false_eq_true, if_false];refine ⟨k, fun ⟨x, b, k1, c⟩ => ?_⟩;rcases Jv.1 b with e | b
    ·rw [e, d] at k1; cases k1
    ·exact f ⟨x, b, k1, c⟩
def cntW (n : Nat) (mk : List Int) (t : Int) : Nat := ((List.range n).filter fun j => decide (mk.getD j 0 <= t)).length
theorem Y3a {L need : List (List Int)} {mk : List Int} {t : Int} (g : InR L.length mk) (h : t < (L.length : Int)) (r : 1 <= cntW L.length mk t) : ∀ n, (∀ W ∈ need, Closed L (roundsW L need mk n) t W) \/ n + 1 <= cntW L.length (roundsW L need mk n) t
 | 0 => .inr r
 | n + 1 => by
  have e : (roundsW L need mk n).length = L.length := by rw [Y19]; exact g.1
  rcases Y3a g h r n with f | f
  ·left;intro W d i j hi c k m a;simp only [roundsW, roundW] at a ⊢;rw [Y12 h e f c];exact f W d i j hi c k m ((Y12 h e f hi).1 a)
  ·by_cases b : ∀ W ∈ need, Closed L (roundsW L need mk n) t W
   ·left;intro W d i j hi c k m a;simp only [roundsW, roundW] at a ⊢;rw [Y12 h e b c];exact b W d i j hi c k m ((Y12 h e b hi).1 a)
   ·right;obtain ⟨W, d⟩ := Classical.not_forall.1 b;obtain ⟨d, o⟩ := Classical.not_imp.1 d;unfold Closed at o;simp only [Classical.not_forall] at o;obtain ⟨i, j, hi, c, k, m, a, q⟩ := o;have := (Y39 (l := List.range L.length) (p := fun j => decide ((roundsW L need mk n).getD j 0 <= t)) (p' := fun j => decide ((roundsW L need mk (n + 1)).getD j 0 <= t)) fun x v u => by
     have s := Y3l (need := need) e (Jf.1 v);rw [J3] at u ⊢;show (need.foldl (stepW L) (roundsW L need mk n)).getD x 0 <= t;omega).2 ⟨j, Jf.2 c, by
      have s := Y4t e d hi c k m;rw [J3];show (need.foldl (stepW L) (roundsW L need mk n)).getD j 0 <= t;omega, by rw [J1l]; exact q⟩
    unfold cntW at f ⊢;omega
theorem Y2s {L need : List (List Int)} {mk : List Int} (a : InR L.length mk) : ∀ n, InR L.length (roundsW L need mk n)
 | 0 => a
 | n + 1 => Y5v (Y2s a n)
def marks0 (n : Nat) : List Int := toI (List.range n)
theorem Y3x {n j : Nat} (a : j < n) : (marks0 n).getD j 0 = (j : Int) := by
 unfold marks0 toI;rw [Y2 (by simpa using a)];simp
theorem Y1b (n : Nat) : InR n (marks0 n) := by
 refine ⟨by unfold marks0 toI; simp, fun j a => ?_⟩;rw [Y3x a];omega
theorem Y5w {L need : List (List Int)} {W : List Int} (k : W ∈ need) {i j : Nat} (hi : i < L.length) (b : j < L.length) (c : meets (L.getD i []) W = true) (d : meets (L.getD j []) W = true) : (roundsW L need (marks0 L.length) L.length).getD i 0 = (roundsW L need (marks0 L.length) L.length).getD j 0 := by
 have e := Y2s (need := need) (Y1b L.length) L.length;have a : ∀ {i j : Nat}, i < L.length -> j < L.length -> meets (L.getD i []) W = true -> meets (L.getD j []) W = true -> (roundsW L need (marks0 L.length) L.length).getD j 0 <= (roundsW L need (marks0 L.length) L.length).getD i 0 := by
  intro i j hi b c d;have h := e.2 i hi;have g : 1 <= cntW L.length (marks0 L.length) ((roundsW L need (marks0 L.length) L.length).getD i 0) := by
   unfold cntW;have : (0 : Nat) ∈ (List.range L.length).filter fun j => decide ((marks0 L.length).getD j 0 <= (roundsW L need (marks0 L.length) L.length).getD i 0) := by
    rw [Jj];exact ⟨Jf.2 om, by rw [Y3x om, J3]; omega⟩
   exact List.length_pos_of_mem this
  rcases Y3a (need := need) (Y1b L.length) h.2 g L.length with f | f
  ·exact f W k i j hi b c d (J1h _)
  ·have : cntW L.length (roundsW L need (marks0 L.length) L.length) ((roundsW L need (marks0 L.length) L.length).getD i 0) <= L.length := by
    unfold cntW;have := Jl (fun j => decide ((roundsW L need (marks0 L.length) L.length).getD j 0 <= (roundsW L need (marks0 L.length) L.length).getD i 0)) (List.range L.length)
    rwa [Js] at this
   omega
 have l := a hi b c d;have a2 := a b hi d c;omega
structure CompOk (L need : List (List Int)) : Prop where
 len : L.length <= 100
 blk : ∀ b ∈ L, b.length <= 1000
 few : need.length <= 100000
 wit : ∀ W ∈ need, W.length <= 1000
theorem CompOk.at {L need : List (List Int)} (h : CompOk L need) {j : Nat} (a : j < L.length) : (L[j]).length <= 1000 := h.blk _ (J4 a)
theorem Yap {N K : Nat} {R} {Q : Option (List (List Int)) -> Prop} {a : List Rel} {b : List Fact} {c : Int} {e : List Atm} {f : List Int} {L need : List (List Int)} {mk : List Int} {n m : Int} {i : Nat} (h : CompOk L need) (hi : i < need.length) (s : mk.length = L.length) (u : L.length < K) (q : 1048576 < N)
  (r : Q (R a b c e f L (setW L mk need[i] m L.length) need n ((i + 1 : Nat) : Int))) : Q (Z2f R N K a b c e f L mk need n (i : Int) m 0) := by
 have x := h.len;have v := h.few;exact Yg (fun K (k : Nat) => Z2f R N K a b c e f L (setW L mk need[i] m k) need n (i : Int) m (k : Int)) (fun k => k <= L.length) (fun k => L.length - k) Q (fun K k w t => by
  simp only [Z2f, Z6e];by_cases g : k < L.length
  ·have o : (k : Int) < (L.length : Int) :=om;have p : inb (k : Int) (setW L mk need[i] m k) = true := Y1 (by rw [Y1m, s]; exact g);simp only [zS, o, Y1 g, Y1 hi, Y3 g, Y3 hi, Y4s (h.at g) (h.wit _ (J4 hi)) q, p, letv_eq, Ji];have l : L.getD k [] = L[k] := Y2 g;have d := t (k + 1) g om;simp only [setW, l] at d;rw [Y0];cases j : meets L[k] need[i] with
   | true =>
    rw [j, Je rfl] at d;rw [J5]; exact d
   | false =>
    rw [j, Jn sm] at d;rw [J1]; exact d
  ·have : k = L.length :=om;subst this;simp only [zS, Jr];rw [Y0];exact r) K 0 om om
theorem Yaq {N K : Nat} {R} {Q : Option (List (List Int)) -> Prop} {a : List Rel} {b : List Fact} {c : Int} {e : List Atm} {f : List Int} {L need : List (List Int)} {mk : List Int} {n : Int} {i : Nat} (h : CompOk L need) (hi : i < need.length) (p : mk.length = L.length) (u : L.length < K) (o : 1048576 < N)
  (s : Q (R a b c e f L (stepW L mk need[i]) need n ((i + 1 : Nat) : Int))) : Q (Z2g R N K a b c e f L mk need n (i : Int) (L.length : Int) 0) := by
 have w := h.len;exact Yg (fun K (k : Nat) => Z2g R N K a b c e f L mk need n (i : Int) (leastW L mk need[i] k) (k : Int)) (fun k => k <= L.length) (fun k => L.length - k) Q (fun K k v t => by
  simp only [Z2g, Z6f];by_cases g : k < L.length
  ·have q : (k : Int) < (L.length : Int) :=om;have r : inb (k : Int) mk = true := Y1 (by rw [p]; exact g);have m : L.getD k [] = L[k] := Y2 g;have l : at_ 0 mk (k : Int) = mk.getD k 0 := by rw [Y3 om, Y2 om]
   have d := t (k + 1) g om;simp only [leastW, m] at d;simp only [zS, q, Y1 g, Y1 hi, Y3 g, Y3 hi, Y4s (h.at g) (h.wit _ (J4 hi)) o, r, l];rw [Y0];cases j : meets L[k] need[i] with
   | true =>
    rw [j, Je rfl] at d;rw [J5]; exact d
   | false =>
    rw [j, Jn sm] at d;rw [J1]; exact d
  ·have : k = L.length :=om;subst this;simp only [zS, Jr];exact Yap h hi p om o s) K 0 om om
theorem Yar {N K : Nat} {R} {Q : Option (List (List Int)) -> Prop} {a : List Rel} {b : List Fact} {c : Int} {e : List Atm} {f : List Int} {L need : List (List Int)} {mk : List Int} {n : Nat} (h : CompOk L need) (s : n <= 1000) (l : mk.length = L.length) (o : need.length < K) (j : 1048576 < N)
  (k : Q (R a b c e f L (roundW L need mk) need ((n + 1 : Nat) : Int))) : Q (Z1n R N K a b c e f L mk need (n : Int) 0) := by
 have r := h.len;have p := h.few;exact Yg (fun K (i : Nat) => Z1n R N K a b c e f L ((need.take i).foldl (stepW L) mk) need (n : Int) (i : Int)) (fun i => i <= need.length) (fun i => need.length - i) Q (fun K i q m => by
  simp only [Z1n, Z6g];by_cases hi : i < need.length
  ·have g : (i : Int) < (need.length : Int) :=om;simp only [zS, g];refine Yaq h hi (by rw [Y2r, l]) om j ?_;have d := m (i + 1) hi om;rw [J6 hi, List.foldl_append] at d;exact d
  ·have : i = need.length :=om;subst this;simp only [zS, Jr, Jz];rw [Y0];exact k) K 0 om om
def partI (mk : List Int) (n i : Nat) : List Int := toI ((List.range n).filter fun k => decide (mk.getD k 0 = (i : Int)))
def partsOf (mk : List Int) (n : Nat) : Nat -> List (List Int)
 | 0 => []
 | i + 1 => partsOf mk n i ++ (if (partI mk n i).length > 0 then [partI mk n i] else [])
theorem Y82 (mk : List Int) (n i : Nat) : (partI mk n i).length <= n := by
 unfold partI toI;rw [Jb];exact Jh (Jl _ _) sm
theorem Y1u (mk : List Int) (n : Nat) : ∀ i, (partsOf mk n i).length <= i
 | 0 => by simp [partsOf]
 | i + 1 => by
  have := Y1u mk n i;simp only [partsOf, J13];split <;> simp <;> omega
theorem Yas {N K : Nat} {R} {Q : Option (List (List Int)) -> Prop} {a : List Rel} {b : List Fact} {c : Int} {e : List Atm} {f : List Int} {L : List (List Int)} {mk : List Int} {g : List (List Int)} {i : Nat} (y : L.length <= 100) (s : mk.length = L.length) (z : g.length <= 100) (hi : i <= 1000) (w : L.length < K)
  (h : Q (R a b c e f L mk (g ++ (if (partI mk L.length i).length > 0 then [partI mk L.length i] else [])) ((i + 1 : Nat) : Int))) : Q (Z2h R N K a b c e f L mk g (i : Int) [] 0) := by
 have u := Y82 mk L.length i;exact Yg (fun K (k : Nat) => Z2h R N K a b c e f L mk g (i : Int) (toI ((List.range k).filter fun k => decide (mk.getD k 0 = (i : Int)))) (k : Int)) (fun k => k <= L.length) (fun k => L.length - k) Q (fun K k x v => by
  simp only [Z2h, Z6h];have r : (toI ((List.range k).filter fun k => decide (mk.getD k 0 = (i : Int)))).length <= k := by
   unfold toI;rw [Jb];exact Jh (Jl _ _) sm
  by_cases o : k < L.length
  ·have p : (k : Int) < (L.length : Int) :=om;have q : inb (k : Int) mk = true := Y1 (by rw [s]; exact o);have m : at_ 0 mk (k : Int) = mk.getD k 0 := by rw [Y3 om, Y2 om]
   have d := v (k + 1) o om;rw [J16, J1m] at d;simp only [zS, p, q, m];rw [Y0];by_cases j : mk.getD k 0 = (i : Int)
   ·rw [beqI, J2 j, J5, Y4, grd_true];rw [List.filter_cons_of_pos (by rw [J3]; exact j), List.filter_nil] at d;unfold toI at d ⊢;rw [Jk] at d;exact d
   ·rw [beqI, J7 j, J1];rw [List.filter_cons_of_neg (by rw [J3]; exact j), List.filter_nil, Jm] at d;exact d
  ·have : k = L.length :=om;subst this;have t : toI ((List.range L.length).filter fun k => decide (mk.getD k 0 = (i : Int))) = partI mk L.length i := rfl;simp only [zS, Jr, t];rw [Y0];by_cases n : (partI mk L.length i).length > 0
   ·have l : ((partI mk L.length i).length : Int) > 0 :=om;rw [Je n] at h;rw [J2 l, J5, Y4, grd_true];exact h
   ·have l : ¬ ((partI mk L.length i).length : Int) > 0 :=om;rw [Jn n, Jm] at h;rw [J7 l, J1];exact h) K 0 om om
theorem Yat {d : Db} {q : Qry} {L : List (List Int)} {mk : List Int} {b : Bool} (e : L.length <= 100) (f : mk.length = L.length) (a : Z2 N d q = some b) (h : 1048576 < N) : Z1a N N d.1 d.2 q.1 q.2.1 q.2.2 L mk [] 0 = some (if b then partsOf mk L.length L.length else []) := by
 have a : Z2 N (d.1, d.2) (q.1, q.2.1, q.2.2) = some b := a;cases b with
 | false =>
  obtain ⟨M, rfl⟩ : ∃ M, N = M + 1 := ⟨N - 1, om⟩;simp only [zS, Z1a, Z4f, a];cases decide ((0 : Int) < (L.length : Int)) <;> rfl
 | true =>
  rw [Je rfl];exact Yg (fun K (i : Nat) => Z1a N K d.1 d.2 q.1 q.2.1 q.2.2 L mk (partsOf mk L.length i) (i : Int)) (fun i => i <= L.length) (fun i => L.length - i) (fun o => o = some (partsOf mk L.length L.length)) (fun K i j g => by
   simp only [Z1a, Z4f];by_cases hi : i < L.length
   ·have c : (i : Int) < (L.length : Int) :=om;have := Y1u mk L.length i;simp only [zS, c, a];exact Yas (Q := fun o => o = some (partsOf mk L.length L.length)) e f om om om (g (i + 1) hi om)
   ·have : i = L.length :=om;subst this;simp only [zS, Jr]) N 0 om om
theorem Yau {d : Db} {q : Qry} {L need : List (List Int)} {mk : List Int} {b : Bool} (h : CompOk L need) (e : mk.length = L.length) (a : Z2 N d q = some b) (c : 1048576 < N) : Z1o N N d.1 d.2 q.1 q.2.1 q.2.2 L mk need 0 = some (if b then partsOf (roundsW L need mk L.length) L.length L.length else []) := by
 have g := h.len;have j := h.few;exact Yg (fun K (n : Nat) => Z1o N K d.1 d.2 q.1 q.2.1 q.2.2 L (roundsW L need mk n) need (n : Int)) (fun n => n <= L.length) (fun n => L.length - n) (fun o => o = some (if b then partsOf (roundsW L need mk L.length) L.length L.length else [])) (fun K n k i => by
  simp only [Z1o, Z6i];by_cases hi : n < L.length
  ·have f : (n : Int) < (L.length : Int) :=om;simp only [zS, f];exact Yar (Q := fun o => o = some (if b then partsOf (roundsW L need mk L.length) L.length L.length else [])) h om (by rw [Y19, e]) om c (i (n + 1) hi om)
  ·have : n = L.length :=om;subst this;simp only [zS, Jr];exact Yat g (by rw [Y19, e]) a c) N 0 om om
def markOf (d : Db) (q : Qry) : List Int := roundsW (blocksOf d) (need d q) (marks0 (blocksOf d).length) (blocksOf d).length
theorem Yae {d : Db} {q : Qry} (a : queryFor d q = true) : CompOk (blocksOf d) (need d q) := by
 have hv : validDb d = true := by
  unfold queryFor at a;simp only [Jd] at a;exact a.1
 have g := (Yb hv).blks;refine ⟨by have := g.len; omega, fun b c => by have := g.each b c; omega, ?_, fun W f => ?_⟩
 ·unfold need;rw [Jb];have := Y1l (d := d) (q := q);omega
 ·unfold need at f;obtain ⟨e, h, rfl⟩ := J8.1 f;have := (Y1y h).2.2;omega
theorem Y83 {d : Db} {q : Qry} (h : SmallDb d) (a : queryFor d q = true) (g : q.2.2.length <= 1048576) (c : 1048576 < N) : Z2t N d q = some (partsOf (markOf d q) (blocksOf d).length (blocksOf d).length) := by
 have e := Yae a;have p := e.len;unfold Z2t Z7v;rw [Yq h c, J0];have b := Y7 (N := N) h g c;rw [a] at b;exact Yg (fun K (i : Nat) => Z3m N K d.1 d.2 q.1 q.2.1 q.2.2 (blocksOf d) (marks0 i) (i : Int)) (fun i => i <= (blocksOf d).length) (fun i => (blocksOf d).length - i) (fun o => o = some (partsOf (markOf d q) (blocksOf d).length (blocksOf d).length)) (fun K i n m => by
  simp only [Z3m, Z6j];by_cases hi : i < (blocksOf d).length
  ·have j : (i : Int) < ((blocksOf d).length : Int) :=om;have f : (marks0 i).length = i := (Y1b i).1;have k : marks0 (i + 1) = marks0 i ++ [(i : Int)] := by
    unfold marks0 toI;rw [J16, Jk];rfl
   simp only [zS, j];rw [Y4, grd_true, Y0, <- k];exact m (i + 1) hi om
  ·have : i = (blocksOf d).length :=om;subst this;have l : Z14 N (d.1, d.2) (q.1, q.2.1, q.2.2) = some (need d q) := Yv h g c;simp only [zS, Jr, l];exact Yau e (Y1b _).1 b c) N 0 om om
theorem Y84 {d : Db} (e : validDb d = true) : ∀ b ∈ blocksOf d, ∀ x ∈ b, 0 <= x /\ x < (d.2.length : Int) := by
 intro b a x g;unfold blocksOf at a;rw [Je e] at a;obtain ⟨h, c, rfl⟩ := J8.1 a;obtain ⟨s, i, rfl⟩ := J8.1 c;obtain ⟨k, f, rfl⟩ := J8.1 g;have := Jf.1 (Jj.1 f).1;omega
theorem Y6r (N : Nat) (w : List Int) (b : List (List Int)) (i : Int) (hi : inb i b = true) (a : List Int -> Int -> List (List Int) -> Int -> Int -> Option Int) (R : List Int -> Int -> List (List Int) -> Int -> Option Int) (d : ∀ x, a w x b (b.length : Int) (w64 (i + 1)) = R w x b (w64 (i + 1))) (n : Int) :
  ∀ k s c, Z1k a N k w n s b (b.length : Int) i i (at_ [] b i) ((at_ [] b i).length : Int) c = Z16 R N k w n b i s c
 | 0, _, _ => rfl
 | k + 1, s, c => by
  simp only [Z1k, Z46, Z16, Z36, hi, grd_true, d, Y6r N w b i hi a R d n k]
theorem Y85 {N : Nat} (a : 0 < N) (w : List Int) (b : List (List Int)) : ∀ k n i, Z15 N k w n b (b.length : Int) i = Z0w N k w n b i
 | 0, _, _ => rfl
 | k + 1, n, i => by
  simp [Z15, Z47, Z0w, Z4a];cases decide (i < (b.length : Int)) with
  | false => rfl
  | true =>
   simp [J5];cases hi : inb i b with
   | true =>
    rw [grd_true];exact Y6r N w b i hi _ _ (fun x => Y85 a w b k x _) n N 0 0
   | false =>
    obtain ⟨m, rfl⟩ : ∃ m, N = m + 1 := ⟨N - 1, om⟩;simp [Z16, Z36, hi, grd_false]
theorem Yaf {w : List Int} {b : List (List Int)} {j : Nat} (a : j < b.length) (i : (b[j]).length <= 1000) (e : ∀ x ∈ b[j], 0 <= x /\ x < (w.length : Int)) (h : 1048576 < N) (R : List Int -> Int -> List (List Int) -> Int -> Option Int) (n : Int) :
  ∃ s, Z16 R N N w n b (j : Int) 0 0 = R w (w64 (n * s)) b (w64 ((j : Int) + 1)) := by
 have := loop (fun k (s : Int × Nat) => Z16 R N k w n b (j : Int) s.1 (s.2 : Int)) (fun s => s.2 <= (b[j]).length) (fun s => (b[j]).length - s.2) (fun o => ∃ s, o = R w (w64 (n * s)) b (w64 ((j : Int) + 1))) (fun k s g => by
  obtain ⟨s, q⟩ := s;simp only at g ⊢;by_cases c : q < (b[j]).length
  ·right;have d : (q : Int) < ((b[j]).length : Int) :=om;have f := e _ (J4 c);refine ⟨(w64 (s + at_ 0 w (b[j])[q]), q + 1), c, by simp only; omega, ?_⟩;simp only [zS, Z16, Z36, Y1 a, Y3 a, d, Y1 c, Y3 c, Y8 f.1 f.2, Y0 (j := q)]
  ·left;have d : ¬ (q : Int) < ((b[j]).length : Int) :=om;exact ⟨s, by simp only [zS, Z16, Z36, Y1 a, Y3 a, d]⟩) N (0, 0) (by simp only; omega) sm
 exact this
theorem Yag {w : List Int} {b : List (List Int)} (h : b.length <= 1000) (g : ∀ x ∈ b, x.length <= 1000) (d : ∀ r ∈ b, ∀ x ∈ r, 0 <= x /\ x < (w.length : Int)) (f : 1048576 < N) : ∃ x, Z0w N N w 1 b 0 = some x := by
 have := loop (fun k (s : Int × Nat) => Z0w N k w s.1 b (s.2 : Int)) (fun s => s.2 <= b.length) (fun s => b.length - s.2) (fun o => ∃ x, o = some x) (fun k s e => by
  obtain ⟨n, j⟩ := s;simp only at e ⊢;by_cases a : j < b.length
  ·right;have c : (j : Int) < (b.length : Int) :=om;obtain ⟨s, e⟩ := Yaf a (g _ (J4 a)) (d _ (J4 a)) f (Z0w N k) n;refine ⟨(w64 (n * s), j + 1), a, by simp only; omega, ?_⟩;simp only [zS, Z0w, Z4a, c];rw [e, Y0]
  ·left;have c : ¬ (j : Int) < (b.length : Int) :=om;exact ⟨n, by simp only [zS, Z0w, Z4a, c]⟩) N (1, 0) (by simp only; omega) sm
 exact this
theorem Y3b {d : Db} {w : List Int} (h : SmallDb d) (k : w.length <= 1048576) (e : 1048576 < N) : ∃ x, Z2s N d w = some x /\ Z1u N d w = some x := by
 unfold Z2s Z9o Z1u Z7d;rw [Yt h k e, Y1s h k e, J0, J0];cases i : validWeights d w with
 | false => exact ⟨0, rfl, rfl⟩
 | true =>
  have a := i;unfold validWeights at a;simp at a;obtain ⟨c, j, _⟩ := a;obtain ⟨m, n, o, p⟩ := Y16 c;have l := (Y9 c).few;simp only [zS, Yq h e, Y47 h c e];obtain ⟨x, f⟩ := Yag (N := N) (w := w) (b := blocksOf d) om (fun r g => by
   have : r.length ∈ sizes d := J8.2 ⟨_, g, rfl⟩;have := Y48 this;omega) (fun r g x f => by rw [j]; exact Y84 c r g x f) e
  exact ⟨x, f, by rw [Y85 om, f]⟩
theorem Y2t {f : Nat -> Int} (a : ∀ k, 1 <= f k) : ∀ {n k : Nat}, k <= n -> 0 <= sumN f k /\ sumN f k <= sumN f n
 | 0, k, h => by
  obtain rfl : k = 0 :=om;simp [sumN]
 | n + 1, k, h => by
  have b := a n;by_cases e : k = n + 1
  ·subst e;have := (Y2t a (n := n) (k := n) (Jx _)).1;simp only [sumN];omega
  ·have := Y2t a (n := n) (k := k) om;simp only [sumN];omega
def gcdI : Nat -> Int -> Int -> Option Int
 | 0, _, _ => none
 | k + 1, a, b => bif b != 0 then grz b (gcdI k b (a.tmod b)) else some a
theorem Y3m {N : Nat} : ∀ (k : Nat) (a b : Int), Z8e N k a b = gcdI k a b
 | 0, a, b => rfl
 | k + 1, a, b => by simp only [Z8e, Z0af, gcdI, Y3m k]
theorem Y5x {N : Nat} : ∀ (k : Nat) (a b : Int), Z0a5 N k a b = gcdI k a b
 | 0, a, b => rfl
 | k + 1, a, b => by simp only [Z0a5, Z0bd, gcdI, Y5x k]
theorem Y5y : ∀ (j : Nat) (k : Nat) (a b : Nat), b < 2 ^ j -> 2 * j + 1 <= k -> 0 < a + b -> ∃ g : Nat, gcdI k (a : Int) (b : Int) = some (g : Int) /\ 1 <= g
 | 0, k, a, b, hb, hk, hp => by
  obtain ⟨k, rfl⟩ : ∃ m, k = m + 1 := ⟨k - 1, om⟩;obtain rfl : b = 0 := by simpa using hb
  exact ⟨a, by simp [gcdI], om⟩
 | j + 1, k, a, b, hb, hk, hp => by
  obtain ⟨k, rfl⟩ : ∃ m, k = m + 1 + 1 := ⟨k - 2, om⟩;by_cases i : b = 0
  ·subst i; exact ⟨a, by simp [gcdI], om⟩
  have d : ((b : Int) != 0) = true := by simp; omega
  have e : (a : Int).tmod (b : Int) = ((a % b : Nat) : Int) := rfl;have n : (b : Int) ≠ 0 :=om;have q : a % b < b := J1g _ om;rw [gcdI, d, J5, Yc n, e];by_cases l : a % b = 0
  ·rw [l]; exact ⟨b, by simp [gcdI], om⟩
  have f : (((a % b : Nat) : Int) != 0) = true := by simp; omega
  have h : (b : Int).tmod ((a % b : Nat) : Int) = ((b % (a % b) : Nat) : Int) := rfl;have c : ((a % b : Nat) : Int) ≠ 0 :=om;rw [gcdI, f, J5, Yc c, h];refine Y5y j k _ _ ?_ om om;have o : b % (a % b) < a % b := J1g _ om;rw [J1s] at hb;by_cases p : 2 * (a % b) <= b
  ·omega
  ·have : b % (a % b) = b - a % b := by
    rw [Nat.mod_eq_sub_mod om, Nat.mod_eq_of_lt om]
   omega
def covW (d : Db) (q : Qry) (w : List Int) (k : Nat) : Int := if cov d q (repN (blocksOf d) k) then pw w (nth (blocksOf d).reverse k) else 0
theorem Y13 {f g : Nat -> Int} (h : ∀ k, 0 <= f k /\ f k <= g k) : ∀ n, 0 <= sumN f n /\ sumN f n <= sumN g n
 | 0 => by simp [sumN]
 | n + 1 => by have := h n; have := Y13 h n; simp [sumN]; omega
structure WOk (d : Db) (w : List Int) : Prop where
 g : Good1 d w
 few : sizeP (blocksOf d) <= 16384
 pos : ∀ k, 1 <= pw w (nth (blocksOf d).reverse k)
 sum : sumN (fun k => pw w (nth (blocksOf d).reverse k)) (sizeP (blocksOf d)) = tw w (blocksOf d)
 top : 1 <= tw w (blocksOf d) /\ tw w (blocksOf d) <= 374813367582081024
 rep : ∀ k, (repN (blocksOf d) k).Pairwise (· < ·) /\ (∀ x ∈ repN (blocksOf d) k, 0 <= x /\ x < (d.2.length : Int)) /\ (repN (blocksOf d) k).length <= 14 /\ pw w (repN (blocksOf d) k) = pw w (nth (blocksOf d).reverse k)
theorem wOk {d : Db} {w : List Int} (hv : validWeights d w = true) : WOk d w := by
 have g := Y1n hv;have a := g.blks;have o := Y1k a.ne;have h : 2 ^ ((blocksOf d).map List.length).sum <= 2 ^ 14 := Jt (by decide) a.sum;have n := Y70 a.ne a.wts;have f := Y3w a.ne a.wts;have e : 18 ^ ((blocksOf d).map List.length).sum <= 18 ^ 14 := Jt (by decide) a.sum;rw [Y9d] at e;have b := fun k => Y5h (w := w) (C := (blocksOf d).reverse) (k := k) a.rev.1 fun c i => a.wts c (J10.1 i);refine ⟨g, om, fun k => Y2i (b k).2.1, ?_, ⟨f, om⟩, fun k => ⟨?_, ?_, ?_, Y23 w _⟩⟩
 ·rw [<- Yu, Y34 w _ a.rev.1, Y3u]
 ·unfold repN;rw [J27];exact Y1g a.rev.1 a.rev.2
 ·intro x j;obtain ⟨c, l, m⟩ := Y49 a.rev.1 x (J10.1 j);exact a.ins c (J10.1 l) x m
 ·unfold repN;rw [List.length_reverse, (b k).2.2, List.length_reverse];exact a.len
theorem WOk.bound {d : Db} {w : List Int} (h : WOk d w) (q : Qry) {k : Nat} (b : k <= sizeP (blocksOf d)) : 0 <= sumN (covW d q w) k /\ sumN (covW d q w) k <= 374813367582081024 := by
 have c := Y13 (f := covW d q w) (g := fun k => pw w (nth (blocksOf d).reverse k)) (fun k => by
  have := h.pos k;unfold covW;split <;> omega) k
 have a := (Y2t h.pos b).2;rw [h.sum] at a;have := h.top;omega
theorem Y2u {d : Db} {q : Qry} {w : List Int} {k : Nat} : sumN (covW d q w) (k + 1) = sumN (covW d q w) k + covW d q w k := rfl
theorem Y6b {d : Db} {w l : List Int} (h : SmallDb d) (hv : validWeights d w = true) (b : 1048576 < N) (i : l.Pairwise (· < ·)) (a : ∀ x ∈ l, 0 <= x /\ x < (d.2.length : Int)) (g : l.length <= 14) : Z2z N d w l = some (pw w l) := by
 have c := Y1n hv;have f := c.len;have j := c.few;unfold Z2z Z96;rw [Yt h om b, J0, hv, J9, J1, Y6i h om b, J0, Y35 i a, J9, J1];exact Y4f (fun x e => c.wts x (a x e).1 (a x e).2) (fun x e => gr) g b
theorem Y86 {d : Db} {w : List Int} {q : Qry} (h : SmallDb d) (hv : validWeights d w = true) (t : q.2.2.length <= 1048576) (b : 1048576 < N) : Z8t N d w q = some (sumN (covW d q w) (sizeP (blocksOf d))) := by
 have c := wOk hv;have i := c.g;have l := c.few;have m := i.len;unfold Z8t Z0bx;rw [Yv h t b, J0];exact loop (fun f (s : Nat) => Z8w N f w d.1 d.2 (sumN (covW d q w) s) (need d q) (s : Int)) (fun s => s <= sizeP (blocksOf d)) (fun s => sizeP (blocksOf d) - s) (fun o => o = some (sumN (covW d q w) (sizeP (blocksOf d)))) (fun f k z => by
  simp only [Z8w, Z0at, Yh (d := (d.1, d.2)) h i b, J0, show blocksOf (d.1, d.2) = blocksOf d from rfl];by_cases a : k < sizeP (blocksOf d)
  ·right;refine ⟨k + 1, a, om, ?_⟩;have p : (k : Int) < ((sizeP (blocksOf d) : Nat) : Int) :=om;obtain ⟨u, v, x, y⟩ := c.rep k;have r := c.bound q (k := k) om;have g := c.bound q (k := k + 1) a;rw [J2 p, J5, nthV (d := (d.1, d.2)) h i b a, J0, show blocksOf (d.1, d.2) = blocksOf d from rfl];simp only;rw [Y32 om b, J0];rw [Y2u] at g ⊢;cases j : cov d q (repN (blocksOf d) k) with
   | true =>
    have e : covW d q w k = pw w (nth (blocksOf d).reverse k) := by unfold covW; rw [j]; rfl
    have n : Z2z N (d.1, d.2) w (repN (blocksOf d) k) = some (pw w (repN (blocksOf d) k)) := Y6b h hv b u v x;rw [J5, n, J0, y, <- e, Y5, Y0]
   | false =>
    have e : covW d q w k = 0 := by unfold covW; rw [j]; rfl
    rw [J1, e, Int.add_zero, Y0]
  ·grind) N 0 om om
theorem Yah {d : Db} {w : List Int} {q : Qry} (h : SmallDb d) (hv : validWeights d w = true) (g : 1048576 < N) {x : Int × Int} (n : Z5o N (sumN (covW d q w) (sizeP (blocksOf d))) (tw w (blocksOf d)) = some x) :
  Z3u N N w d.1 d.2 0 0 (need d q) (blocksOf d) 0 (sizeP (blocksOf d) : Int) 0 = some (x, true) := by
 have c := wOk hv;have m := c.g;have i := m.blks;have t := c.few;have u := m.len;exact loop (fun f (s : Nat) => Z3u N f w d.1 d.2 0 0 (need d q) (blocksOf d) (sumN (covW d q w) s) (sizeP (blocksOf d) : Int) (s : Int)) (fun s => s <= sizeP (blocksOf d)) (fun s => sizeP (blocksOf d) - s) (fun o => o = some (x, true)) (fun f k E => by
  simp only [Z3u, Z89];by_cases a : k < sizeP (blocksOf d)
  ·right;refine ⟨k + 1, a, om, ?_⟩;have z : (k : Int) < ((sizeP (blocksOf d) : Nat) : Int) :=om;obtain ⟨F, v, C, D⟩ := c.rep k;have A := c.bound q (k := k) om;have l := c.bound q (k := k + 1) a;rw [J2 z, J5, Y7m (by have := i.len; omega) i.ne (fun b j => by have := i.each b j; omega) om g, Y9z, J0, Ya1 om g, J0];rw [Y2u] at l ⊢;cases r : cov d q (repN (blocksOf d) k) with
   | true =>
    have e : covW d q w k = pw w (nth (blocksOf d).reverse k) := by unfold covW; rw [r]; rfl
    have y : Z60 N w (repN (blocksOf d) k) = some (pw w (repN (blocksOf d) k)) := by
     unfold Z60 Z0as;rw [Y9a];exact Y4f (fun x p => m.wts x (v x p).1 (v x p).2) (fun x p => gr) C g
    rw [J5, y, J0, D, <- e, Y5, Y0]
   | false =>
    have e : covW d q w k = 0 := by unfold covW; rw [r]; rfl
    rw [J1, e, Int.add_zero, Y0]
  ·left;have : k = sizeP (blocksOf d) :=om;subst this;have B : Z1u N (d.1, d.2) w = some (tw w (blocksOf d)) := Y5i h hv g;simp [J1];rw [B, J0, n];rfl) N 0 om om
theorem Yai {n m : Int} (h : 0 <= n) (f : 1 <= m) (c : m <= 374813367582081024) (d : 1048576 < N) : ∃ x, Z3e N n m = some x /\ Z5o N n m = some x := by
 obtain ⟨n, rfl⟩ : ∃ k : Nat, n = k := ⟨n.toNat, om⟩;obtain ⟨m, rfl⟩ : ∃ k : Nat, m = k := ⟨m.toNat, om⟩;obtain ⟨g, a, b⟩ := Y5y 59 N n m om om om;refine ⟨(w64 ((n : Int).tdiv g), w64 ((m : Int).tdiv g)), ?_, ?_⟩
 ·unfold Z3e Z3w Z0a7;rw [Y3m, a, J0, Yc om, Yc om]
 ·have e : imax (g : Int) 1 = g := by unfold imax; split <;> omega
  unfold Z5o Z0b2 Z0cx;rw [Y5x, a, J0, e, Yc om, Yc om]
theorem Y3c {d : Db} {w : List Int} {q : Qry} (h : SmallDb d) (e : w.length <= 1048576) (c : q.2.2.length <= 1048576) (a : 1048576 < N) : ∃ x, Z1j N d w q = some x /\ Z18 N d w q = some x := by
 unfold Z1j Z18 Z9m;rw [Y7 h c a, J0, Y2e h c a, J0];cases l : queryFor d q with
 | false => exact ⟨_, rfl, rfl⟩
 | true =>
  rw [J9, J1, J1, Yt h e a, J0, Y1s h e a, J0];cases hv : validWeights d w with
  | false => exact ⟨_, rfl, rfl⟩
  | true =>
   have b := wOk hv;have g := b.g;have f := g.blks;obtain ⟨x, j, k⟩ := Yai (N := N) (b.bound q (Jx _)).1 b.top.1 b.top.2 a;obtain ⟨t, i, m⟩ := Y3b (N := N) h e a;rw [Y5i h hv a] at m;have i : Z2s N d w = some (tw w (blocksOf d)) :=gr;rw [J9, J1, J1, Y86 h hv c a, J0, i, J0, j, J0, Y4y h c a, J0, Y47 h g.vb a, J0, Y58 (by have := f.len; omega) (by have := f.sum; omega) a, J0, Y6q];exact ⟨_, rfl, Yah h hv a k⟩
theorem Yl {d : Db} {q : Qry} (h : queryFor d q = true) : validDb d = true := by
 unfold queryFor at h;simp at h;exact h.1
theorem Y3y {d : Db} {q : Qry} {want : Bool} (h : SmallDb d) (f : queryFor d q = true) (p : q.2.2.length <= 1048576) (c : 1048576 < N) : ∃ r b, Z3c N d q want = some (r, b) /\ (b = true ↔ ∃ k, k < sizeP (blocksOf d) /\ cov d q (repN (blocksOf d) k) = want) := by
 have hv := Yl f;have l := Yb hv;have j := l.blks;have n : sizeP (blocksOf d) <= 2 ^ 14 := Jh (Y1k j.ne) (Jt (by decide) j.sum);unfold Z3c Z8f;rw [Y7 h p c, J0, f, J9, J1, Yv h p c, J0];have := Yg (fun K (k : Nat) => Z7i N K want d.1 d.2 (need d q) (k : Int)) (fun k => k <= sizeP (blocksOf d) /\ ∀ i, i < k -> cov d q (repN (blocksOf d) i) ≠ want) (fun k => sizeP (blocksOf d) - k) (fun o => ∃ r b, o = some (r, b) /\ (b = true ↔ ∃ k, k < sizeP (blocksOf d) /\ cov d q (repN (blocksOf d) k) = want)) (fun K k w z => by
  obtain ⟨D, u⟩ := w;simp only [Z7i, Z0a4, Yh (d := (d.1, d.2)) h l c, J0, show blocksOf (d.1, d.2) = blocksOf d from rfl];by_cases a : k < sizeP (blocksOf d)
  ·have g : (k : Int) < ((sizeP (blocksOf d) : Nat) : Int) :=om;have B := (Y1o (Y2q hv k).2);have A := j.len;have v : Z29 N (need d q) (repN (blocksOf d) k) = some (cov d q (repN (blocksOf d) k)) := by
    have := Y32 (N := N) (d := d) (q := q) (s := repN (blocksOf d) k) om c;unfold Z2y at this;cases t : Z29 N (need d q) (repN (blocksOf d) k) with
    | none => rw [t] at this; simp at this
    | some x => rw [t] at this; simpa using this
   rw [J2 g, J5, nthV (d := (d.1, d.2)) h l c a, J0, show blocksOf (d.1, d.2) = blocksOf d from rfl];simp only [v, J0];cases m : (cov d q (repN (blocksOf d) k) == want) with
   | true =>
    rw [J5];exact ⟨_, _, rfl, ⟨fun _ => ⟨k, a, by simpa using m⟩, fun _ => rfl⟩⟩
   | false =>
    rw [J1, Y0];refine z (k + 1) ⟨a, fun i hi => ?_⟩ om;by_cases e : i = k
    ·rw [e]; simpa using m
    ·exact u i om
  ·have g : ¬ (k : Int) < ((sizeP (blocksOf d) : Nat) : Int) :=om;simp only [zS, g];exact ⟨_, _, rfl, ⟨fun h => (Bool.noConfusion h), fun ⟨i, C, y⟩ => absurd y (u i om)⟩⟩) N 0 om ⟨om, sm⟩
 exact this
def certN (d : Db) (q : Qry) : Bool := queryFor d q && decide (∀ k, k < sizeP (blocksOf d) -> cov d q (repN (blocksOf d) k) = true)
def possN (d : Db) (q : Qry) : Bool := queryFor d q && decide (∃ k, k < sizeP (blocksOf d) /\ cov d q (repN (blocksOf d) k) = true)
theorem Y87 {d : Db} {q : Qry} (h : SmallDb d) (f : q.2.2.length <= 1048576) (c : 1048576 < N) : Z4b N d q = some (certN d q) := by
 unfold Z4b Z37 certN;cases a : queryFor d q with
 | false =>
  unfold Z3c Z8f;rw [Y7 h f c, a];rfl
 | true =>
  obtain ⟨r, b, e, g⟩ := Y3y (want := false) h a f c;rw [e, J0, J0, Y7 h f c, J0, a, J5, Jc];congr 1;simp only;rw [Ju, J21, J3];constructor
  ·intro m k n;cases l : cov d q (repN (blocksOf d) k) with
   | true => rfl
   | false =>
    have := g.2 ⟨k, n, l⟩;rw [m] at this;cases this
  ·intro j;cases b with
   | false => rfl
   | true =>
    obtain ⟨k, k1, i⟩ := g.1 rfl;rw [j k k1] at i;cases i
theorem Y88 {d : Db} {q : Qry} (h : SmallDb d) (f : q.2.2.length <= 1048576) (c : 1048576 < N) : Z3s N d q = some (possN d q) := by
 unfold Z3s Z38 possN;cases a : queryFor d q with
 | false =>
  unfold Z3c Z8f;rw [Y7 h f c, a];rfl
 | true =>
  obtain ⟨r, b, e, g⟩ := Y3y (want := true) h a f c;rw [e, J0, J0, Jc];congr 1;simp only;rw [Ju, J3];exact g
theorem Ya2 {w r s : List Int} (h : r.Perm s) : pw w r = pw w s := by
 induction h with
 | nil => rfl
 | cons x _ c => simp [pw]; rw [c]
 | swap x y l => simp [pw]; rw [<- Int.mul_assoc, <- Int.mul_assoc, J1t (at_ 0 w y)]
 | trans _ _ a b => rw [a, b]
theorem Y2v {d : Db} {q : Qry} {r s : List Int} (h : ∀ x, x ∈ r ↔ x ∈ s) : cov d q r = cov d q s := by
 unfold cov;simp [h]
def gW (d : Db) (q : Qry) (w r : List Int) : Int := if cov d q r then 0 else pw w r
theorem Y27 (d : Db) (q : Qry) (w : List Int) : Unord (gW d q w) := fun r s h => by
 unfold gW;rw [Y2v fun x => h.mem_iff, Ya2 h]
theorem Y91 {d : Db} {q : Qry} {e : List Int × List Int} (a : e ∈ embs d q) : 0 < e.2.length := by
 unfold embs at a;split at a
 ·rename_i h;obtain ⟨c, f, g, i, b⟩ := (Yy _ _ _ _).1 a;unfold queryFor validQ at h;simp at h;rw [b, J1x];omega
 ·cases a
theorem Y5z (d : Db) (q : Qry) (w : List Int) : gW d q w [] = 1 := by
 have : cov d q [] = false := by
  unfold cov;rw [J2g];intro e a;have := Y91 a;cases b : e.2 with
  | nil => grind
  | cons x l => simp
 unfold gW;rw [this];rfl
def mkN (d : Db) (q : Qry) (k : Nat) : Nat := ((markOf d q).getD k 0).toNat
theorem Y89 {d : Db} {q : Qry} {k : Nat} (a : k < (blocksOf d).length) : mkN d q k < (blocksOf d).length /\ ((mkN d q k : Nat) : Int) = (markOf d q).getD k 0 := by
 have := (Y2s (L := blocksOf d) (need := need d q) (Y1b (blocksOf d).length) (blocksOf d).length).2 k a;unfold mkN markOf;omega
theorem Y4u {L : List (List Int)} {I : List Nat} {b : List Int} (h : b ∈ blkAt L I) : ∃ i ∈ I, b = L.getD i [] := by
 obtain ⟨i, a, c⟩ := J8.1 h;exact ⟨i, a, c.symm⟩
theorem Y60 {d : Db} {q : Qry} {w : List Int} {I J : List Nat} (F : ∀ i ∈ I, i < (blocksOf d).length) (G : ∀ j ∈ J, j < (blocksOf d).length) (g : ∀ i ∈ I, ∀ j ∈ J, mkN d q i ≠ mkN d q j) {r s : List Int} (O : picks (blkAt (blocksOf d) I) r) (P : picks (blkAt (blocksOf d) J) s) : gW d q w (r ++ s) = gW d q w r * gW d q w s := by
 have K : cov d q (r ++ s) = (cov d q r || cov d q s) := by
  rw [Ju, J2i];unfold cov;simp only [J18, Jp, J3, J29];constructor
  ·intro ⟨e, L, h⟩;by_cases D : ∀ x ∈ e.2, x ∈ r
   ·grind
   by_cases E : ∀ x ∈ e.2, x ∈ s
   ·grind
   exfalso;obtain ⟨x, a⟩ := Classical.not_forall.1 D;obtain ⟨a, l⟩ := Classical.not_imp.1 a;obtain ⟨y, f⟩ := Classical.not_forall.1 E;obtain ⟨f, p⟩ := Classical.not_imp.1 f;have n := (h x a).resolve_left l;have o := (h y f).resolve_right p;obtain ⟨b, v, A⟩ := (Y2l P).1 x n;obtain ⟨c, B, C⟩ := (Y2l O).1 y o;obtain ⟨j, u, rfl⟩ := Y4u v;obtain ⟨i, t, rfl⟩ := Y4u B;have H : sortI e.2 [] ∈ need d q := J8.2 ⟨e, L, rfl⟩;have m : ∀ {k : Nat} {z : Int}, z ∈ e.2 -> z ∈ (blocksOf d).getD k [] -> meets ((blocksOf d).getD k []) (sortI e.2 []) = true := fun Q M => by
    unfold meets;rw [J18];exact ⟨_, M, by rw [J3, Yn]; exact .inl Q⟩
   have := Y5w H (F i t) (G j u) (m f C) (m a A);refine g i t j u ?_;unfold mkN markOf;rw [this]
  ·grind
 unfold gW;rw [K, Y2g];cases cov d q r <;> cases cov d q s <;> simp
theorem Yaj {d : Db} {q : Qry} {w : List Int} : ∀ m, sumC (blkAt (blocksOf d) (below (mkN d q) (blocksOf d).length m)) (gW d q w) = prodN (fun i => sumC (blkAt (blocksOf d) (ofMark (mkN d q) (blocksOf d).length i)) (gW d q w)) m :=
 Y26 (Y27 d q w) (Y5z d q w) fun I J b c a r s e f => Y60 b c a e f
theorem Y78 {d : Db} {q : Qry} {w : List Int} : sumC (blocksOf d) (gW d q w) = prodN (fun i => sumC (blkAt (blocksOf d) (ofMark (mkN d q) (blocksOf d).length i)) (gW d q w)) (blocksOf d).length :=
 Y74 (Y27 d q w) (Y5z d q w) (fun k e => (Y89 e).1) fun I J b c a r s f g => Y60 b c a f g
theorem Y4v {S : Int -> Int -> Bool} : ∀ {A B : List (List Int)}, A.flatten = B.flatten -> (∀ a ∈ A, a ≠ []) -> (∀ b ∈ B, b ≠ []) -> (∀ a ∈ A, ∀ x ∈ a, ∀ y ∈ a, S x y = true) -> (∀ b ∈ B, ∀ x ∈ b, ∀ y ∈ b, S x y = true) -> (A.Pairwise fun a c => ∀ x ∈ a, ∀ y ∈ c, S x y = false) -> (B.Pairwise fun a c => ∀ x ∈ a, ∀ y ∈ c, S x y = false) -> A = B
 | [], [], _, _, _, _, _, _, _ => rfl
 | [], b :: B, h, _, hb, _, _, _, _ => by simp_all
 | a :: A, [], h, ha, _, _, _, _, _ => by simp_all
 | a :: A, b :: B, h, ha, hb, sa, sb, pa, pb => by
  obtain ⟨l, m⟩ := J1a.1 pa;obtain ⟨n, o⟩ := J1a.1 pb;rw [J1q, J1q] at h;have i : ∀ {a b c : List Int} {A : List (List Int)} {F : List Int}, a ≠ [] -> b = a ++ c -> A.flatten = c ++ F -> (∀ x ∈ b, ∀ y ∈ b, S x y = true) -> (∀ e ∈ A, ∀ x ∈ a, ∀ y ∈ e, S x y = false) -> c = [] := by
   intro a b c A F j d g s r;cases c with
   | nil => rfl
   | cons z c =>
    exfalso;obtain ⟨x, f⟩ := List.exists_mem_of_ne_nil a j;have t : z ∈ A.flatten := by rw [g]; simp
    obtain ⟨e, q, k⟩ := J2h.1 t;have p := s x (by rw [d]; simp [f]) z (by rw [d]; simp);rw [r e q x f z k] at p;cases p
  have e : a = b /\ A.flatten = B.flatten := by
   rcases List.append_eq_append_iff.1 h with ⟨c, d, g⟩ | ⟨c, d, g⟩
   ·have := i (ha a sm) d g (sb b sm) l;subst this;simp at d g;exact ⟨d.symm, g⟩
   ·have := i (hb b sm) d g (sa a sm) n;subst this;simp at d g;exact ⟨d, g.symm⟩
  rw [e.1, Y4v e.2 (fun x f => ha x (by simp [f])) (fun x f => hb x (by simp [f])) (fun x f => sa x (by simp [f])) (fun x f => sb x (by simp [f])) m o]
structure SubB (d : Db) (C : List (List Int)) : Prop where
 hv : validDb d = true
 sub : C.Sublist (blocksOf d)
theorem Y4w {L : List (List Int)} {p : Nat -> Bool} : (blkAt L ((List.range L.length).filter p)).Sublist L := by
 have := (List.filter_sublist (p := p) (l := List.range L.length)).map fun k => L.getD k [];have e := Y4k L;unfold blkAt at e ⊢
 rwa [e] at this
theorem SubB.mem {d : Db} {C : List (List Int)} (h : SubB d C) {b : List Int} (a : b ∈ C) : b ∈ blocksOf d := h.sub.subset a
theorem Y92 {A B : List (List Int)} (h : A.Sublist B) : A.flatten.Sublist B.flatten := by
 induction h with
 | slnil => grind
 | cons a _ b => grind
 | cons_cons a _ b => grind
theorem SubB.flat {d : Db} {C : List (List Int)} (h : SubB d C) : C.flatten.Pairwise (· < ·) /\ (∀ x ∈ C.flatten, 0 <= x /\ x < (d.2.length : Int)) /\ C.flatten.length <= 14 := by
 have a := (Yb h.hv).blks;have c : C.flatten.Sublist (blocksOf d).flatten := Y92 h.sub;refine ⟨a.flat.sublist c, fun x g => ?_, ?_⟩
 ·obtain ⟨b, e, f⟩ := J2h.1 g;exact a.ins b (h.mem e) x f
 ·have := c.length_le;rw [List.length_flatten (L := blocksOf d)] at this;have := a.sum;omega
def kap (C : List (List Int)) (p : Int) : Int := C.flatten.getD p.toNat 0
theorem Y1c {C : List (List Int)} {p : Int} (a : 0 <= p) (h : p < (C.flatten.length : Int)) : kap C p = C.flatten[p.toNat]' om := Y2 om
theorem Y61 {d : Db} {C : List (List Int)} {p r : Int} (b : 0 <= p) (h : p < (C.flatten.length : Int)) (a : 0 <= r) (g : r < (C.flatten.length : Int)) : sameD (subDb d C.flatten) p.toNat r.toNat = sameD d (kap C p).toNat (kap C r).toNat := by
 unfold sameD;rw [Yj (show p.toNat < C.flatten.length by omega), Yj (show r.toNat < C.flatten.length by omega), Y1c b h, Y1c a g];rfl
theorem SubB.val {d : Db} {C : List (List Int)} (h : SubB d C) : validDb (subDb d C.flatten) = true := by
 obtain ⟨a, f2, b⟩ := h.flat;exact Y2j h.hv a f2 b
theorem Y79 {d : Db} {C : List (List Int)} (h : SubB d C) : (blocksOf (subDb d C.flatten)).map (List.map (kap C)) = C := by
 have o := h.val;have u := Y9e o;have i := Y9e h.hv;have f : (subDb d C.flatten).2.length = C.flatten.length := by
  show (C.flatten.map _).length = _;rw [Jb]
 have e : ∀ b ∈ blocksOf (subDb d C.flatten), ∀ x ∈ b, 0 <= x /\ x < (C.flatten.length : Int) := fun b c x g => by
  have := u.ins b c x g
  rwa [f] at this
 refine Y4v (S := fun x y => sameD d x.toNat y.toNat) ?_ ?_ (fun b c => i.ne b (h.mem c)) ?_ (fun b c => i.same b (h.mem c)) ?_ ?_
 ·rw [<- List.map_flatten, Y1t o, f];unfold toI;rw [List.map_map];apply List.ext_getElem
  ·simp
  ·intro n w z;simp;rw [Y1c om om];simp
 ·intro a j;obtain ⟨b, c, rfl⟩ := J8.1 j;have := u.ne b c;simpa using this
 ·intro a j x g y q;obtain ⟨b, c, rfl⟩ := J8.1 j;obtain ⟨p, l, rfl⟩ := J8.1 g;obtain ⟨r, m, rfl⟩ := J8.1 q;have s := e b c p l;have t := e b c r m;have := u.same b c p l r m
  rwa [Y61 s.1 s.2 t.1 t.2] at this
 ·rw [J11];refine u.apart.imp_of_mem fun {a b} j c k x g y q => ?_;obtain ⟨p, l, rfl⟩ := J8.1 g;obtain ⟨r, m, rfl⟩ := J8.1 q;have s := e a j p l;have t := e b c r m;have := k p l r m;rw [Y61 t.1 t.2 s.1 s.2] at this;show sameD d _ _ = false;cases v : sameD d (kap C p).toNat (kap C r).toNat with
  | false => rfl
  | true => rw [i.symm _ _ v] at this; exact this
 ·refine (i.apart.sublist h.sub).imp fun k x g y q => ?_;have := k x g y q;cases v : sameD d x.toNat y.toNat with
  | false => rfl
  | true => rw [i.symm _ _ v] at this; exact this
theorem Ya3 {d : Db} {q : Qry} {C : List (List Int)} (h : SubB d C) {r : List Int} (j : r.Pairwise (· < ·)) (c : ∀ x ∈ r, 0 <= x /\ x < (C.flatten.length : Int)) (t : r.length <= 14) : cov (subDb d C.flatten) q r = cov d q (r.map (kap C)) := by
 obtain ⟨m, f2, y⟩ := h.flat;have i : (subDb d C.flatten).2.length = C.flatten.length := by
  show (C.flatten.map _).length = _;rw [Jb]
 have f : ∀ x ∈ r, 0 <= x /\ x < ((subDb d C.flatten).2.length : Int) := fun x g => gr;have v : (r.map (kap C)).Pairwise (· < ·) := by
  rw [J11];refine j.imp_of_mem fun {a b} n s o => ?_;have e := c a n;have k := c b s;rw [Y1c e.1 e.2, Y1c k.1 k.2];exact Jo.1 m _ _ om om om
 have w : ∀ x ∈ r.map (kap C), 0 <= x /\ x < (d.2.length : Int) := fun x g => by
  obtain ⟨p, u, rfl⟩ := J8.1 g;have e := c p u;rw [Y1c e.1 e.2];exact f2 _ (J4 _)
 rw [<- Y4r h.val j f t, <- Y4r h.hv v w gr];have : subDb (subDb d C.flatten) r = subDb d (r.map (kap C)) := by
  unfold subDb;simp only [List.map_map, Prod.mk.injEq, true_and];refine J1k fun x g => ?_;have e := c x g;simp only [Function.comp];rw [Y1c e.1 e.2];exact Yj (d := d) (l := C.flatten) (show x.toNat < C.flatten.length by omega)
 rw [this]
theorem Y8a {w v : List Int} {k : Int -> Int} : ∀ {r : List Int}, (∀ x ∈ r, at_ 0 v x = at_ 0 w (k x)) -> pw v r = pw w (r.map k)
 | [], _ => rfl
 | x :: r, h => by
  simp [pw];rw [h x sm, Y8a fun y a => h y (by simp [a])]
def subW (C : List (List Int)) (w : List Int) : List Int := C.flatten.map (at_ 0 w)
theorem Y3z {d : Db} {C : List (List Int)} {w : List Int} (h : SubB d C) (c : validWeights d w = true) : validWeights (subDb d C.flatten) (subW C w) = true := by
 have a := Y1n c;obtain ⟨_, f2, _⟩ := h.flat;unfold validWeights weightsIn subW;rw [h.val, Jc, Jd, J3, Jp];refine ⟨by show (C.flatten.map _).length = (C.flatten.map _).length; rw [Jb, Jb], fun x e => ?_⟩;obtain ⟨p, b, rfl⟩ := J8.1 e;have := f2 p b;rw [J3];exact a.wts p this.1 this.2
theorem Y3n {f g : Nat -> Int} : ∀ n, sumN f n - sumN g n = sumN (fun k => f k - g k) n
 | 0 => rfl
 | n + 1 => by
  have := Y3n (f := f) (g := g) n;simp [sumN];omega
theorem Y40 {d : Db} {q : Qry} {C : List (List Int)} {w : List Int} (h : SubB d C) (p : validWeights d w = true) : tw (subW C w) (blocksOf (subDb d C.flatten)) - sumN (covW (subDb d C.flatten) q (subW C w)) (sizeP (blocksOf (subDb d C.flatten))) = sumC C (gW d q w) := by
 have c := Y3z h p;have f := wOk c;have l := f.g.blks;have j : (subDb d C.flatten).2.length = C.flatten.length := by
  show (C.flatten.map _).length = _;rw [Jb]
 rw [<- f.sum, Y3n];have e : sumN (fun k => pw (subW C w) (nth (blocksOf (subDb d C.flatten)).reverse k) - covW (subDb d C.flatten) q (subW C w) k) (sizeP (blocksOf (subDb d C.flatten))) = sumN (fun k => gW d q w ((nth (blocksOf (subDb d C.flatten)).reverse k).map (kap C))) (sizeP (blocksOf (subDb d C.flatten)).reverse) := by
  rw [Yu];refine Yi fun k _ => ?_;obtain ⟨s, u, t, v⟩ := f.rep k;have b : ∀ x ∈ repN (blocksOf (subDb d C.flatten)) k, 0 <= x /\ x < (C.flatten.length : Int) := fun x a => gr;have m := Ya3 (q := q) h s b t;have n : cov d q ((repN (blocksOf (subDb d C.flatten)) k).map (kap C)) = cov d q ((nth (blocksOf (subDb d C.flatten)).reverse k).map (kap C)) := Y2v fun x => by
   unfold repN;rw [List.map_reverse, J10]
  have o : pw (subW C w) (nth (blocksOf (subDb d C.flatten)).reverse k) = pw w ((nth (blocksOf (subDb d C.flatten)).reverse k).map (kap C)) := Y8a fun x a => by
   have i := b x (by unfold repN; exact J10.2 a);unfold subW;rw [Ym i.1 gr, List.getElem_map, Y1c i.1 i.2]
  unfold covW gW;rw [m, n, <- o];cases cov d q ((nth (blocksOf (subDb d C.flatten)).reverse k).map (kap C)) <;> simp
 rw [e, Y5n (g := fun r => gW d q w (r.map (kap C))) l.rev.1, <- Y5o, List.map_reverse, Y79 h];exact Y2m (List.reverse_perm C) (Y27 d q w)
theorem Y41 {d : Db} {q : Qry} {C : List (List Int)} {w : List Int} (h : SubB d C) (b : validWeights d w = true) : 0 <= sumC C (gW d q w) /\ sumC C (gW d q w) <= 374813367582081024 := by
 have a := wOk (Y3z h b);have e := a.bound q (Jx _);have i := a.top;have j := Y40 (q := q) h b;have c := Y13 (f := covW (subDb d C.flatten) q (subW C w)) (g := fun k => pw (subW C w) (nth (blocksOf (subDb d C.flatten)).reverse k)) (fun k => by
  have := a.pos k;unfold covW;split <;> omega) (sizeP (blocksOf (subDb d C.flatten)))
 rw [a.sum] at c;omega
theorem Y93 {l : List Int} (h : l.Pairwise (· < ·)) : sortI l [] = l := by
 have b : l.Nodup := h.imp fun a e => om;exact Y1f (Y11 l [] b sm sm) h fun x => by rw [Yn]; simp
def compC (d : Db) (q : Qry) (i : Nat) : List (List Int) := blkAt (blocksOf d) (ofMark (mkN d q) (blocksOf d).length i)
theorem Y8b {d : Db} {q : Qry} (hv : validDb d = true) (i : Nat) : SubB d (compC d q i) := ⟨hv, Y4w⟩
theorem Y6s {d : Db} {q : Qry} (i : Nat) : partI (markOf d q) (blocksOf d).length i = toI (ofMark (mkN d q) (blocksOf d).length i) := by
 unfold partI ofMark;congr 1;refine List.filter_congr fun k a => ?_;have := (Y89 (q := q) (Jf.1 a)).2;rw [Ju, J3, J3];omega
theorem Y3d {mk : List Int} {n m : Nat} : ∀ {t : Nat}, m <= t -> ∃ a, partsOf mk n t = partsOf mk n m ++ a
 | 0, h => by simp_all
 | t + 1, h => by
  by_cases e : m = t + 1
  ·simp_all
  ·obtain ⟨a, b⟩ := Y3d (mk := mk) (n := n) (m := m) (t := t) om;refine ⟨a ++ (if (partI mk n t).length > 0 then [partI mk n t] else []), ?_⟩;simp [partsOf];rw [b, J17]
theorem Y3o {d : Db} {q : Qry} {r R : Type} (f : Nat -> r -> Nat -> Option R) (e : Nat -> r) (Q : Option R -> Prop)
  (c : ∀ K, Q (f (K + 1) (e (blocksOf d).length) (partsOf (markOf d q) (blocksOf d).length (blocksOf d).length).length))
  (a : ∀ m, m < (blocksOf d).length -> compC d q m = [] -> e (m + 1) = e m)
  (b : ∀ K m j, m < (blocksOf d).length -> ∀ i : j < (partsOf (markOf d q) (blocksOf d).length (blocksOf d).length).length, (partsOf (markOf d q) (blocksOf d).length (blocksOf d).length)[j] = toI (ofMark (mkN d q) (blocksOf d).length m) -> Q (f K (e (m + 1)) (j + 1)) -> Q (f (K + 1) (e m) j)) :
  ∀ (t m K : Nat), m + t = (blocksOf d).length -> t < K -> Q (f K (e m) (partsOf (markOf d q) (blocksOf d).length m).length)
 | 0, m, K, h, hK => by
  obtain rfl : m = (blocksOf d).length :=om;obtain ⟨K, rfl⟩ : ∃ k, K = k + 1 := ⟨K - 1, om⟩;exact c K
 | t + 1, m, K, h, hK => by
  have l : m < (blocksOf d).length :=om;by_cases g : (partI (markOf d q) (blocksOf d).length m).length > 0
  ·obtain ⟨K, rfl⟩ : ∃ k, K = k + 1 := ⟨K - 1, om⟩;obtain ⟨p, o⟩ := Y3d (mk := markOf d q) (n := (blocksOf d).length) (m := m + 1) (t := (blocksOf d).length) om;simp only [partsOf] at o;rw [Je g] at o;have i : (partsOf (markOf d q) (blocksOf d).length m).length < (partsOf (markOf d q) (blocksOf d).length (blocksOf d).length).length :=gr;refine b K m _ l i ?_ ?_
   ·rw [<- Y6s];have : (partsOf (markOf d q) (blocksOf d).length (blocksOf d).length)[(partsOf (markOf d q) (blocksOf d).length m).length]? = some (partI (markOf d q) (blocksOf d).length m) :=gr;rw [J15 i] at this;exact J1y this
   ·have := Y3o f e Q c a b t (m + 1) K om om;simp only [partsOf] at this;rw [Je g, J13, J26] at this;exact this
  ·have := Y3o f e Q c a b t (m + 1) K om om;simp only [partsOf] at this;rw [Jn g, Jm] at this;have s : compC d q m = [] := by
    rw [Y6s] at g;unfold toI at g;rw [Jb] at g;unfold compC blkAt;rw [J1z.1 (by omega : (ofMark (mkN d q) (blocksOf d).length m).length = 0)];rfl
   rw [a m l s] at this;exact this
theorem Y8c {mk : Nat -> Nat} {n i : Nat} : ∀ k ∈ ofMark mk n i, k < n := fun k a => Jf.1 (Jj.1 a).1
theorem Ya4 {l : List Nat} {k : Nat} (a : k < (toI l).length) : (toI l)[k] = ((l[k]'(by unfold toI at a; simpa using a) : Nat) : Int) := by
 simp [toI]
theorem Y8d {L : List (List Int)} {I : List Nat} {k : Nat} (a : k < I.length) : (blkAt L (I.take (k + 1))).flatten = (blkAt L (I.take k)).flatten ++ L.getD I[k] [] := by
 unfold blkAt;rw [J6 a, Jk, J1w];simp
theorem Y4z {L : List (List Int)} {I : List Nat} (k : Nat) : (blkAt L (I.take k)).flatten.length <= (blkAt L I).flatten.length := by
 unfold blkAt;have : (I.map fun k => L.getD k []) = (I.take k).map (fun k => L.getD k []) ++ (I.drop k).map (fun k => L.getD k []) := by simp_all
 rw [this, J1w, J13];omega
theorem Y42 {f : Nat -> Int} {n : Nat} : prodN f (n + 1) = prodN f n * f n := rfl
theorem Y94 {d : Db} {q : Qry} {w : List Int} {m : Nat} (h : compC d q m = []) : sumC (compC d q m) (gW d q w) = 1 := by
 rw [h];exact Y5z d q w
theorem Y7a {d : Db} {q : Qry} {w : List Int} (hv : validWeights d w = true) (m : Nat) : 0 <= prodN (fun i => sumC (compC d q i) (gW d q w)) m /\ prodN (fun i => sumC (compC d q i) (gW d q w)) m <= 374813367582081024 := by
 have := Yaj (d := d) (q := q) (w := w) m;show 0 <= prodN (fun i => sumC (blkAt (blocksOf d) (ofMark (mkN d q) (blocksOf d).length i)) (gW d q w)) m /\ _;unfold compC;rw [<- this];exact Y41 ⟨(Y1n hv).vb, Y4w⟩ hv
theorem Y7b {d : Db} {w : List Int} (h : SmallDb d) (hv : validWeights d w = true) (a : 1048576 < N) : Z2s N d w = some (tw w (blocksOf d)) := by
 have b := Y1n hv;have := b.len;have := b.few;obtain ⟨t, e, c⟩ := Y3b (N := N) (w := w) h om a;rw [Y5i h hv a] at c;rw [J1y c];exact e
theorem Y6c {d : Db} {q : Qry} {w : List Int} (f : validWeights d w = true) : tw w (blocksOf d) - sumN (covW d q w) (sizeP (blocksOf d)) = sumC (blocksOf d) (gW d q w) := by
 have a := wOk f;have b := a.g.blks;rw [<- a.sum, Y3n];have e : sumN (fun k => pw w (nth (blocksOf d).reverse k) - covW d q w k) (sizeP (blocksOf d)) = sumN (fun k => gW d q w (nth (blocksOf d).reverse k)) (sizeP (blocksOf d).reverse) := by
  rw [Yu];refine Yi fun k _ => ?_;have c : cov d q (repN (blocksOf d) k) = cov d q (nth (blocksOf d).reverse k) := Y2v fun x => by
   unfold repN;rw [J10]
  unfold covW gW;rw [c];cases cov d q (nth (blocksOf d).reverse k) <;> simp
 rw [e, Y5n b.rev.1];exact Y2m (List.reverse_perm _) (Y27 d q w)
theorem Y62 : ∀ (j : Nat) (k : Nat) (a b : Nat), b < 2 ^ j -> 2 * j + 1 <= k -> gcdI k (a : Int) (b : Int) = some ((Nat.gcd a b : Nat) : Int)
 | 0, k, a, b, hb, hk => by
  obtain ⟨k, rfl⟩ : ∃ m, k = m + 1 := ⟨k - 1, om⟩;obtain rfl : b = 0 := by simpa using hb
  simp [gcdI]
 | j + 1, k, a, b, hb, hk => by
  obtain ⟨k, rfl⟩ : ∃ m, k = m + 1 + 1 := ⟨k - 2, om⟩;by_cases l : b = 0
  ·subst l; simp [gcdI]
  have d : ((b : Int) != 0) = true := by simp; omega
  have e : (a : Int).tmod (b : Int) = ((a % b : Nat) : Int) := rfl;have o : (b : Int) ≠ 0 :=om;have r : a % b < b := J1g _ om;have h : Nat.gcd a b = Nat.gcd b (a % b) := by rw [Nat.gcd_comm a b, Nat.gcd_rec b a, Nat.gcd_comm]
  rw [gcdI, d, J5, Yc o, e, h];by_cases n : a % b = 0
  ·rw [n]; simp [gcdI]
  have f : (((a % b : Nat) : Int) != 0) = true := by simp; omega
  have g : (b : Int).tmod ((a % b : Nat) : Int) = ((b % (a % b) : Nat) : Int) := rfl;have c : ((a % b : Nat) : Int) ≠ 0 :=om;have i : Nat.gcd b (a % b) = Nat.gcd (a % b) (b % (a % b)) := by rw [Nat.gcd_comm b (a % b), Nat.gcd_rec (a % b) b, Nat.gcd_comm]
  rw [gcdI, f, J5, Yc c, g, i];refine Y62 j k _ _ ?_ om;have p : b % (a % b) < a % b := J1g _ om;rw [J1s] at hb;by_cases q : 2 * (a % b) <= b
  ·omega
  ·have : b % (a % b) = b - a % b := by
    rw [Nat.mod_eq_sub_mod om, Nat.mod_eq_of_lt om]
   omega
def frac (n m : Nat) : Int × Int := (((n / Nat.gcd n m : Nat) : Int), ((m / Nat.gcd n m : Nat) : Int))
theorem Y4a {n m : Nat} (a : 1 <= m) : 1 <= Nat.gcd n m := Nat.gcd_pos_of_pos_right n a
theorem Y8e {N n m : Nat} (j : n <= 374813367582081024) (d : 1 <= m) (e : m <= 374813367582081024) (h : 1048576 < N) : Z3w N n m = some ((Nat.gcd n m : Nat) : Int) /\ Z3e N n m = some (frac n m) := by
 have i := Y4a (n := n) d;have a : Z3w N n m = some ((Nat.gcd n m : Nat) : Int) := by
  unfold Z3w Z0a7;rw [Y3m, Y62 59 N n m om om]
 refine ⟨a, ?_⟩;unfold Z3e frac;have f := Nat.div_le_self n (Nat.gcd n m);have g := Nat.div_le_self m (Nat.gcd n m);have b : (n : Int).tdiv ((Nat.gcd n m : Nat) : Int) = ((n / Nat.gcd n m : Nat) : Int) := rfl;have c : (m : Int).tdiv ((Nat.gcd n m : Nat) : Int) = ((m / Nat.gcd n m : Nat) : Int) := rfl;rw [a, J0, Yc om, Yc om, b, c];generalize n / Nat.gcd n m = A at *;generalize m / Nat.gcd n m = B at *;rw [Y5, Y5]
theorem Y95 {c n m : Nat} (a : 1 <= c) : frac (c * n) (c * m) = frac n m := by
 unfold frac;rw [Nat.gcd_mul_left, Nat.mul_div_mul_left _ _ om, Nat.mul_div_mul_left _ _ om]
def sat (d : Db) (q : Qry) (w : List Int) : Nat := (sumN (covW d q w) (sizeP (blocksOf d))).toNat
def tot (d : Db) (w : List Int) : Nat := (tw w (blocksOf d)).toNat
theorem Y15 {d : Db} {q : Qry} {w : List Int} (hv : validWeights d w = true) : ((sat d q w : Nat) : Int) = sumN (covW d q w) (sizeP (blocksOf d)) /\ ((tot d w : Nat) : Int) = tw w (blocksOf d) /\ sat d q w <= tot d w /\ 1 <= tot d w /\ tot d w <= 374813367582081024 := by
 have a := wOk hv;have c := a.bound q (Jx _);have e := a.top;have b := Y13 (f := covW d q w) (g := fun k => pw w (nth (blocksOf d).reverse k)) (fun k => by
  have := a.pos k;unfold covW;split <;> omega) (sizeP (blocksOf d))
 rw [a.sum] at b;unfold sat tot;omega
theorem Y9f {d : Db} {w : List Int} {q : Qry} (h : SmallDb d) (b : q.2.2.length <= 1048576) (c : queryFor d q = true) (hv : validWeights d w = true) (a : 1048576 < N) : Z1j N d w q = some (frac (sat d q w) (tot d w), true) /\ Z18 N d w q = some (frac (sat d q w) (tot d w), true) := by
 have i := Y1n hv;have o := i.len;have n := i.few;obtain ⟨j, k, p, l, m⟩ := Y15 (q := q) hv;have e : Z1j N d w q = some (frac (sat d q w) (tot d w), true) := by
  unfold Z1j;rw [Y7 h b a, J0, c, J9, J1, Yt h om a, J0, hv, J9, J1, Y86 h hv b a, J0, Y7b h hv a, J0, <- j, <- k, (Y8e om l m a).2];rfl
 obtain ⟨x, f, g⟩ := Y3c (N := N) (w := w) h (show w.length <= 1048576 by omega) b a;rw [e] at f;rw [<- J1y f] at g;exact ⟨e, g⟩
def same (c : Int) (n : Nat) : List Int := List.replicate n c
theorem Ye {d : Db} {c : Int} (hv : validDb d = true) (a : 1 <= c /\ c <= 9) : validWeights d (same c d.2.length) = true := by
 unfold validWeights weightsIn same;rw [hv, J14, Jc, Jd, J3, Jp];exact ⟨rfl, fun x b => gr⟩
theorem Y6t {c : Int} {n : Nat} : ∀ {r : List Int}, (∀ x ∈ r, 0 <= x /\ x < (n : Int)) -> pw (same c n) r = c ^ r.length
 | [], _ => by simp [pw]
 | x :: r, h => by
  have a := h x sm;have : at_ 0 (same c n) x = c := by
   unfold same;rw [Ym a.1 (by simp_all), List.getElem_replicate]
  simp only [pw];rw [this, Y6t fun y b => h y (by simp [b]), Jy, Int.pow_succ, J1t]
theorem Y6u {c : Int} {n : Nat} : ∀ {r : List Int}, (∀ x ∈ r, 0 <= x /\ x < (n : Int)) -> sw (same c n) r = c * r.length
 | [], _ => by simp [sw]
 | x :: r, h => by
  have a := h x sm;have : at_ 0 (same c n) x = c := by
   unfold same;rw [Ym a.1 gr, List.getElem_replicate]
  simp only [sw];rw [this, Y6u fun y b => h y (by simp [b]), Jy, Int.natCast_add, Int.mul_add];omega
theorem Y1z {c : Int} {n : Nat} : ∀ {L : List (List Int)}, (∀ b ∈ L, ∀ x ∈ b, 0 <= x /\ x < (n : Int)) -> tw (same c n) L = c ^ L.length * (sizeP L : Int)
 | [], _ => by simp [tw, sizeP]
 | b :: L, h => by
  simp only [tw, sizeP, Jy];rw [Y6u (h b sm), Y1z fun x a => h x (by simp [a]), Int.pow_succ, J2a];simp only [Int.mul_assoc, J1t, Int.mul_left_comm]
theorem Y43 {f g : Nat -> Int} {c : Int} (h : ∀ k, f k = c * g k) : ∀ n, sumN f n = c * sumN g n
 | 0 => by simp [sumN]
 | n + 1 => by simp [sumN]; rw [Y43 h n, h n, Int.mul_add]
theorem Y2w {d : Db} {q : Qry} {c : Int} (hv : validDb d = true) (k : Nat) : covW d q (same c d.2.length) k = c ^ (blocksOf d).length * (if cov d q (repN (blocksOf d) k) then 1 else 0) := by
 have b := (wOk (Ye (c := 1) hv om));obtain ⟨h, f, i, j⟩ := b.rep k;have a := Y1o (Y2q hv k).2;have e : pw (same c d.2.length) (nth (blocksOf d).reverse k) = c ^ (blocksOf d).length := by
  have := Y23 (same c d.2.length) (nth (blocksOf d).reverse k);rw [<- this];have g : ((nth (blocksOf d).reverse k).reverse).length = (blocksOf d).length := a;show pw (same c d.2.length) (repN (blocksOf d) k) = _;rw [Y6t (n := d.2.length) (c := c) f, a]
 unfold covW;rw [e];split <;> simp
theorem Y63 {d : Db} {q : Qry} {c : Nat} (hv : validDb d = true) (e : 1 <= c /\ c <= 9) : sat d q (same c d.2.length) = c ^ (blocksOf d).length * sat d q (same 1 d.2.length) /\ tot d (same c d.2.length) = c ^ (blocksOf d).length * sizeP (blocksOf d) /\ tot d (same 1 d.2.length) = sizeP (blocksOf d) := by
 have a := (Yb hv).blks;have f := (Y15 (q := q) (Ye (c := (c : Int)) hv om));have g := (Y15 (q := q) (Ye (c := 1) hv om));have b : sumN (covW d q (same c d.2.length)) (sizeP (blocksOf d)) = (c : Int) ^ (blocksOf d).length * sumN (covW d q (same 1 d.2.length)) (sizeP (blocksOf d)) := Y43 (fun k => by
  rw [Y2w hv, Y2w hv, Int.one_pow, Int.one_mul]) _
 have h : tw (same (c : Int) d.2.length) (blocksOf d) = (c : Int) ^ (blocksOf d).length * (sizeP (blocksOf d) : Int) := Y1z a.ins;have i : tw (same 1 d.2.length) (blocksOf d) = (sizeP (blocksOf d) : Int) := by rw [Y1z a.ins, Int.one_pow, Int.one_mul]
 refine ⟨?_, ?_, ?_⟩
 ·grind
 ·grind
 ·grind
theorem Y8f {d : Db} {q : Qry} {C : List (List Int)} (b : SubB d C) (a : queryFor d q = true) : queryFor (subDb d C.flatten) q = true := by
 unfold queryFor at a ⊢;simp at a;rw [b.val, Jc];exact a.2
theorem Y96 {d : Db} {q : Qry} (h : SmallDb d) (g : queryFor d q = true) (n : q.2.2.length <= 1048576) (b : 1048576 < N) : Z0q N d q = some (sumN (covW d q (same 1 d.2.length)) (sizeP (blocksOf d))) := by
 have hv := Yl g;have j := Yb hv;have t := j.blks;have p := wOk (Ye (c := 1) hv om);have m := p.few;have z := t.len;unfold Z0q Z4v;rw [Yv h n b, J0];exact Yg (fun K (k : Nat) => Z1t N K d.1 d.2 q.1 q.2.1 q.2.2 (sumN (covW d q (same 1 d.2.length)) k) (need d q) (k : Int)) (fun k => k <= sizeP (blocksOf d)) (fun k => sizeP (blocksOf d) - k) (fun o => o = some (sumN (covW d q (same 1 d.2.length)) (sizeP (blocksOf d)))) (fun K k y w => by
  simp only [Z1t, Z41, Yh (d := (d.1, d.2)) h j b, J0, show blocksOf (d.1, d.2) = blocksOf d from rfl];by_cases f : k < sizeP (blocksOf d)
  ·have r : (k : Int) < ((sizeP (blocksOf d) : Nat) : Int) :=om;have l : Z2 N (d.1, d.2) (q.1, q.2.1, q.2.2) = some true := by
    have := Y7 (N := N) h n b;rw [g] at this;exact this
   have A := (Y1o (Y2q hv k).2);have v : Z29 N (need d q) (repN (blocksOf d) k) = some (cov d q (repN (blocksOf d) k)) := by
    have := Y32 (N := N) (d := d) (q := q) (s := repN (blocksOf d) k) om b;unfold Z2y at this;cases B : Z29 N (need d q) (repN (blocksOf d) k) with
    | none => grind
    | some x => grind
   have a := w (k + 1) f om;have u := p.bound q (k := k) om;have e := Y2w (q := q) (c := 1) hv k;rw [Int.one_pow, Int.one_mul] at e;rw [Y2u, e] at a;rw [J2 r, J5, l, J0, J5, nthV (d := (d.1, d.2)) h j b f, J0, show blocksOf (d.1, d.2) = blocksOf d from rfl];simp [v];rw [Y0];cases i : cov d q (repN (blocksOf d) k) with
   | true =>
    rw [i, Je rfl] at a;rw [J5, Y5];exact a
   | false => grind
  ·grind) N 0 om om
theorem Y97 {C : List (List Int)} {d : Db} {c : Int} (b : SubB d C) : subW C (same c d.2.length) = same c C.flatten.length := by
 obtain ⟨_, f2, _⟩ := b.flat;unfold subW;apply List.ext_getElem
 ·unfold same; rw [Jb, J14]
 ·intro n e f;have a := f2 _ (J4 (show n < C.flatten.length by grind));have r : (same c C.flatten.length)[n] = c := by simp [same]
  rw [List.getElem_map, r];unfold same;rw [Ym a.1 (by rw [J14]; exact a.2), List.getElem_replicate]
theorem Y7c {d : Db} {q : Qry} {C : List (List Int)} (b : SubB d C) : (sizeP (blocksOf (subDb d C.flatten)) : Int) - sumN (covW (subDb d C.flatten) q (same 1 (subDb d C.flatten).2.length)) (sizeP (blocksOf (subDb d C.flatten))) = sumC C (gW d q (same 1 d.2.length)) := by
 have g := Ye (c := 1) b.hv om;have e := Y40 (q := q) b g;have a : (subDb d C.flatten).2.length = C.flatten.length := by
  show (C.flatten.map _).length = _;rw [Jb]
 have f := (Yb b.val).blks;rw [Y97 b, <- a, Y1z f.ins, Int.one_pow, Int.one_mul] at e;exact e
theorem Yav {R} {Q : Option Int -> Prop} {d : Db} {q : Qry} {P : List (List Int)} {r : Int} {j m : Nat} (w : SmallDb d) (f : queryFor d q = true) (T : q.2.2.length <= 1048576) (l : 1048576 < N) (v : j < P.length) (G : P[j] = toI (ofMark (mkN d q) (blocksOf d).length m))
  (H : Q (R d.1 d.2 q.1 q.2.1 q.2.2 (blocksOf d) P (w64 (r * sumC (compC d q m) (gW d q (same 1 d.2.length)))) (w64 ((j : Int) + 1)))) : Q (Z2i R N N d.1 d.2 q.1 q.2.1 q.2.2 (blocksOf d) P r (j : Int) [] 0) := by
 have hv := Yl f;have e := Y8b (q := q) hv m;obtain ⟨s, f2, n⟩ := e.flat;have u := (Yb hv).blks;have M := u.len;have F : (ofMark (mkN d q) (blocksOf d).length m).length <= 14 := by
  unfold ofMark;have := Jl (fun k => decide (mkN d q k = m)) (List.range (blocksOf d).length);rw [Js] at this;omega
 have o : (toI (ofMark (mkN d q) (blocksOf d).length m)).length = (ofMark (mkN d q) (blocksOf d).length m).length := by unfold toI; rw [Jb]
 exact Yg (fun K (k : Nat) => Z2i R N K d.1 d.2 q.1 q.2.1 q.2.2 (blocksOf d) P r (j : Int) (blkAt (blocksOf d) ((ofMark (mkN d q) (blocksOf d).length m).take k)).flatten (k : Int)) (fun k => k <= (ofMark (mkN d q) (blocksOf d).length m).length) (fun k => (ofMark (mkN d q) (blocksOf d).length m).length - k) Q (fun K k V U => by
  simp only [Z2i, Z6k, Y1 v, grd_true, Y3 v, G, o];by_cases a : k < (ofMark (mkN d q) (blocksOf d).length m).length
  ·have y : (k : Int) < ((ofMark (mkN d q) (blocksOf d).length m).length : Int) :=om;have b : k < (toI (ofMark (mkN d q) (blocksOf d).length m)).length :=om;have i := Y8c _ (J4 a);have g := U (k + 1) a om;rw [Y8d a, Y2 i] at g;have E := Y4z (L := blocksOf d) (I := ofMark (mkN d q) (blocksOf d).length m) k;have t : (blkAt (blocksOf d) (ofMark (mkN d q) (blocksOf d).length m)).flatten.length <= 14 := n;have J := u.each _ (J4 i);rw [J2 y, J5, Y1 b, grd_true, Y3 b, Ya4 b, Y1 i, grd_true, Y3 i, Y4, grd_true, Y0];exact g
  ·have : k = (ofMark (mkN d q) (blocksOf d).length m).length :=om;subst this;have B : blkAt (blocksOf d) ((ofMark (mkN d q) (blocksOf d).length m).take (ofMark (mkN d q) (blocksOf d).length m).length) = compC d q m := by rw [Jz]; rfl
   have z : Z19 N (compC d q m).flatten = some (compC d q m).flatten := by rw [Y5q om l, Y93 s]
   have A : Z1v N (d.1, d.2) (compC d q m).flatten = some (subDb d (compC d q m).flatten, true) := Y6n w hv s f2 n l;have h := Y4l w f2 n;have C : Z4 N (subDb d (compC d q m).flatten) = some (sizeP (blocksOf (subDb d (compC d q m).flatten)) : Int) := Yh h (Yb e.val) l;have D : Z0q N (subDb d (compC d q m).flatten) (q.1, q.2.1, q.2.2) = some (sumN (covW (subDb d (compC d q m).flatten) q (same 1 (subDb d (compC d q m).flatten).2.length)) (sizeP (blocksOf (subDb d (compC d q m).flatten)))) := Y96 h (Y8f e f) T l;have p := Y7c (q := q) e;have O := Y41 (q := q) e (Ye (c := 1) hv om);rw [J7 (Jr _), J1, B, z, J0, A, J0, C, J0, D, J0, p, Y5 (x := sumC (compC d q m) (gW d q (same 1 d.2.length)))];exact H) N 0 om om
theorem Y8g {d : Db} {q : Qry} (h : SmallDb d) (a : queryFor d q = true) (k : q.2.2.length <= 1048576) (f : 1048576 < N) : Z2u N d q = some ((sizeP (blocksOf d) : Int) - (sat d q (same 1 d.2.length) : Int)) := by
 have hv := Yl a;have b := Ye (c := 1) hv om;have p := (Yb hv).blks;have w := p.len;have e : prodN (fun i => sumC (compC d q i) (gW d q (same 1 d.2.length))) (blocksOf d).length = (sizeP (blocksOf d) : Int) - (sat d q (same 1 d.2.length) : Int) := by
  have l := Y6c (q := q) b;rw [Y1z p.ins, Int.one_pow, Int.one_mul, <- (Y15 (q := q) b).1] at l;rw [l];exact Y78.symm
 have t : (partsOf (markOf d q) (blocksOf d).length 0).length = 0 := rfl;unfold Z2u Z7w;rw [Y7 h k f, J0, a, J9, J1, Yq h f, J0, Y83 h a k f, J0];have := Y3o (d := d) (q := q) (fun K (s : Int) (j : Nat) => Z1p N K d.1 d.2 q.1 q.2.1 q.2.2 (blocksOf d) (partsOf (markOf d q) (blocksOf d).length (blocksOf d).length) s (j : Int)) (fun m => prodN (fun i => sumC (compC d q i) (gW d q (same 1 d.2.length))) m) (fun o => o = some ((sizeP (blocksOf d) : Int) - (sat d q (same 1 d.2.length) : Int))) (fun K => by
  simp [Z1p, Z4g, J1, e])
  (fun m z u => by rw [Y42, Y94 u, Int.mul_one])
  (fun K m j z x v n => by
   have y := Y1u (markOf d q) (blocksOf d).length (blocksOf d).length;have r : (j : Int) < ((partsOf (markOf d q) (blocksOf d).length (blocksOf d).length).length : Int) :=om;have g := Y7a (q := q) b (m + 1);simp [Z1p, Z4g, r, J5];refine Yav (m := m) (Q := fun o => o = some ((sizeP (blocksOf d) : Int) - (sat d q (same 1 d.2.length) : Int))) h a k f x v ?_;rw [Y42] at g n;rw [Y5, Y0];exact n) (blocksOf d).length 0 N om om
 rw [t] at this;exact this
theorem Y6d {d : Db} {q : Qry} (h : SmallDb d) (a : queryFor d q = true) (j : q.2.2.length <= 1048576) (e : 1048576 < N) : Z1b N d q = some (frac (sat d q (same 1 d.2.length)) (sizeP (blocksOf d)), true) := by
 have hv := Yl a;have f := Ye (c := 1) hv om;obtain ⟨s, t, r, g, k⟩ := Y15 (q := q) f;obtain ⟨_, _, p⟩ := Y63 (q := q) (c := 1) hv om;rw [p] at r g k;obtain ⟨i, b⟩ := Y8e (N := N) (n := sat d q (same 1 d.2.length)) (m := sizeP (blocksOf d)) om g k e;unfold Z1b Z3l;have l : w64 ((sizeP (blocksOf d) : Int) - ((sizeP (blocksOf d) : Int) - (sat d q (same 1 d.2.length) : Int))) = (sat d q (same 1 d.2.length) : Int) := by
  rw [Y5];omega
 simp only [zS, Y7 h j e, a, Yh h (Yb hv) e, Y8g h a j e, l, i];unfold Z3e at b;rw [i, J0] at b;have o := Y4a (n := sat d q (same 1 d.2.length)) g;rw [Yc om, Yc om] at b ⊢;rw [J1y b]
theorem Y6v {f g : Nat -> Int} {n j : Nat} (h : ∀ k, 0 <= f k /\ f k <= g k) (c : j < n) (d : f j < g j) : sumN f n < sumN g n := by
 induction n with
 | zero => omega
 | succ n i =>
  have a := h n;have b := (Y13 h n).2;simp [sumN];by_cases e : j = n
  ·subst e; omega
  ·grind
theorem Y98 {d : Db} {q : Qry} {w : List Int} (e : queryFor d q = true) (hv : validWeights d w = true) : (sat d q w = tot d w ↔ certN d q = true) /\ (0 < sat d q w ↔ possN d q = true) := by
 have c := wOk hv;obtain ⟨x, t, y, z, A⟩ := Y15 (q := q) hv;rw [<- c.sum] at t;have b : ∀ k, 0 <= covW d q w k /\ covW d q w k <= pw w (nth (blocksOf d).reverse k) := fun k => by
  have := c.pos k;unfold covW;split <;> omega
 unfold certN possN;rw [e, Jc, Jc, J3, J3];refine ⟨⟨fun u k a => ?_, fun m => ?_⟩, ⟨fun v => ?_, fun ⟨k, k1, s⟩ => ?_⟩⟩
 ·cases o : cov d q (repN (blocksOf d) k) with
  | true => rfl
  | false =>
   have l : covW d q w k = 0 := by unfold covW; rw [o]; rfl
   have := Y6v b a (by have := c.pos k; omega);omega
 ·have : sumN (covW d q w) (sizeP (blocksOf d)) = sumN (fun k => pw w (nth (blocksOf d).reverse k)) (sizeP (blocksOf d)) := Yi fun k a => by
   unfold covW;rw [m k a, Je rfl]
  omega
 ·apply Classical.byContradiction;intro p;have : sumN (covW d q w) (sizeP (blocksOf d)) = sumN (fun _ => 0) (sizeP (blocksOf d)) := Yi fun k a => by
   unfold covW;rw [Jn fun h => p ⟨k, a, h⟩]
  have i : ∀ n, sumN (fun _ => (0 : Int)) n = 0 := fun n => by
   induction n with
   | zero => rfl
   | succ n r => simp [sumN]; omega
  rw [i] at this;omega
 ·have l : covW d q w k = pw w (nth (blocksOf d).reverse k) := by unfold covW; rw [s, Je rfl]
  have := Y6v (f := fun _ => 0) (g := covW d q w) (fun j => ⟨J1h 0, (b j).1⟩) k1 (by have := c.pos k; omega);have i : ∀ n, sumN (fun _ => (0 : Int)) n = 0 := fun n => by
   induction n with
   | zero => rfl
   | succ n r => simp [sumN]; omega
  rw [i] at this;omega
theorem Yak {n m g : Nat} (a : g ∣ n) (b : g ∣ m) (c : 1 <= g) : n / g = m / g ↔ n = m := by simp_all
theorem Ya5 {d : Db} {w : List Int} {q : Qry} (h : SmallDb d) (l : q.2.2.length <= 1048576) (a : queryFor d q = true) (hv : validWeights d w = true) (k : 1048576 < N) : laws_FnProbability_l0 N N d.1 d.2 q.1 q.2.1 q.2.2 (frac (sat d q w) (tot d w)).1 (frac (sat d q w) (tot d w)).2 [] 0 = some true := by
 have e := Yl a;have V := (Y9 e).few;have v := Ye (c := 3) e om;obtain ⟨W, X, Q, R, Y⟩ := Y15 (q := q) hv;have b := Y4a (n := sat d q w) R;have g := Nat.gcd_dvd_left (sat d q w) (tot d w);have f := Nat.gcd_dvd_right (sat d q w) (tot d w);obtain ⟨A, B⟩ := Y98 a hv;have u : 1 <= tot d w / Nat.gcd (sat d q w) (tot d w) := Nat.div_pos (Nat.le_of_dvd om f) b;have s := Nat.div_le_div_right (c := Nat.gcd (sat d q w) (tot d w)) Q;have p := Yak g f b;have r : 0 < sat d q w / Nat.gcd (sat d q w) (tot d w) ↔ 0 < sat d q w := by
  constructor
  ·intro z;have := Nat.div_le_self (sat d q w) (Nat.gcd (sat d q w) (tot d w));omega
  ·intro z;exact Nat.div_pos (Nat.le_of_dvd z g) b
 exact Yg (fun K (i : Nat) => laws_FnProbability_l0 N K d.1 d.2 q.1 q.2.1 q.2.2 (frac (sat d q w) (tot d w)).1 (frac (sat d q w) (tot d w)).2 (same 3 i) (i : Int)) (fun i => i <= d.2.length) (fun i => d.2.length - i) (fun o => o = some true) (fun K i hi P => by
  simp only [laws_FnProbability_l0, laws_FnProbability_l0_b];by_cases t : i < d.2.length
  ·have m : (i : Int) < (d.2.length : Int) :=om;have j := P (i + 1) t om;have O : same 3 (i + 1) = same 3 i ++ [3] := by unfold same; rw [List.replicate_succ']
   have M : (same 3 i).length = i := by unfold same; rw [J14]
   rw [O] at j;rw [J2 m, J5, Y4 om (by rw [M, J26]; omega), grd_true, Y0];exact j
  ·have : i = d.2.length :=om;subst this;have m : Z18 N (d.1, d.2) (same 3 d.2.length) (q.1, q.2.1, q.2.2) = some (frac (sat d q (same 3 d.2.length)) (tot d (same 3 d.2.length)), true) := (Y9f h l a v k).2;have C : Z1b N (d.1, d.2) (q.1, q.2.1, q.2.2) = some (frac (sat d q (same 1 d.2.length)) (sizeP (blocksOf d)), true) := Y6d h a l k;have D : Z4b N (d.1, d.2) (q.1, q.2.1, q.2.2) = some (certN d q) := Y87 h l k;have E : Z3s N (d.1, d.2) (q.1, q.2.1, q.2.2) = some (possN d q) := Y88 h l k;obtain ⟨T, U, Z⟩ := Y63 (q := q) (c := 3) e om;have x : sat d q (same 3 d.2.length) = 3 ^ (blocksOf d).length * sat d q (same 1 d.2.length) := T;have y : tot d (same 3 d.2.length) = 3 ^ (blocksOf d).length * sizeP (blocksOf d) := U;have F : frac (sat d q (same 3 d.2.length)) (tot d (same 3 d.2.length)) = frac (sat d q (same 1 d.2.length)) (sizeP (blocksOf d)) := by
    rw [x, y];exact Y95 (Nat.one_le_pow _ _ om)
   have G : decide ((frac (sat d q w) (tot d w)).1 >= 0) = true := by rw [J3]; exact Int.natCast_nonneg _
   have H : decide ((frac (sat d q w) (tot d w)).1 <= (frac (sat d q w) (tot d w)).2) = true := by rw [J3]; exact Int.ofNat_le.2 s
   have I : decide ((frac (sat d q w) (tot d w)).2 > 0) = true := by rw [J3]; exact Int.natCast_pos.2 u
   have J : ((frac (sat d q w) (tot d w)).1 == (frac (sat d q w) (tot d w)).2) = certN d q := by
    rw [beqI, Ju, J3, <- A, <- p];unfold frac;simp only;exact Int.natCast_inj
   have L : decide ((frac (sat d q w) (tot d w)).1 > 0) = possN d q := by
    rw [Ju, J3, <- B, <- r];unfold frac;simp only;exact Int.natCast_pos
   rw [J7 (Jr _), J1, m, J0, C, J0, F];simp [J5, G, H, I, D, E, J, L]) N 0 om om
theorem law_FnProbability (e : 1048576 < N) {code : List Int} : laws_FnProbability N code = some true := by
 unfold laws_FnProbability laws_FnProbability_b Z0ay;rw [J0];by_cases k : (code.length : Int) > 1048576
 ·grind
 rw [J7 k, J1];obtain ⟨d, w, q, j, l, p, o⟩ := Y8r (N := N) (code := code) om e;have a := l.small om;have f : w.length <= 1048576 :=om;have c : q.2.2.length <= 1048576 :=om;obtain ⟨x, g, i⟩ := Y3c (N := N) (w := w) a f c e;have n : Z0y N d w q = some (x.1, x.2) := by
  unfold Z0y;rw [i];rfl
 simp only [zS, j, g, i, n, beq_self_eq_true, Bool.and_self];by_cases b : queryFor d q = true /\ validWeights d w = true
 ·have := (Y9f (N := N) a c b.1 b.2 e).1;rw [g] at this;obtain rfl := J1y this;rw [J9, J1];exact Ya5 a c b.1 b.2 e
 ·have m : x = ((0, 0), false) := by
   unfold Z1j at g;rw [Y7 a c e, J0] at g;cases h : queryFor d q with
   | false => grind
   | true =>
    rw [h, J9, J1, Yt a f e, J0] at g;cases hv : validWeights d w with
    | false => grind
    | true => grind
  rw [m];rfl
end Go.PL
