/- The plain law of the functions read plainly. Conditions: those that stand in each theorem. -/
import Derived.Test.YtdnmcmhnikjphaaGreatPlA
import Derived.KernelRfl

set_option linter.unusedVariables false
set_option linter.unusedSimpArgs false
set_option linter.unnecessarySimpa false

namespace Go.PL
abbrev J0 := @Option.bind_some
abbrev J1 := @decide_eq_true
abbrev J2 := @decide_eq_true_eq
abbrev J3 := @cond_false
abbrev J4 := @decide_eq_false
abbrev J5 := @List.getElem_mem
abbrev J6 := @List.take_succ_eq_append_getElem
abbrev J7 := @cond_true
abbrev J8 := @List.drop_eq_getElem_cons
abbrev J9 := @List.mem_map
abbrev Ja := @Bool.and_eq_true
abbrev Jb := @List.length_map
abbrev Jc := @Bool.not_true
abbrev Jd := @Bool.true_and
abbrev Je := @Int.lt_irrefl
abbrev Jf := @if_pos
abbrev Jg := @List.map_append
abbrev Jh := @List.getElem?_eq_getElem
abbrev Ji := @List.mem_range
abbrev Jj := @if_neg
abbrev Jk := @List.mem_iff_getElem
abbrev Jl := @List.append_nil
abbrev Jm := @List.mem_filter
abbrev Jn := @Int.toNat_natCast
abbrev Jo := @List.length_filter_le
abbrev Jp := @List.pairwise_iff_getElem
abbrev Jq := @Nat.le_trans
abbrev Jr := @List.length_range
abbrev Js := @List.mem_cons
abbrev Jt := @List.length_take
abbrev Ju := @List.length_pos_iff
abbrev Jv := @List.flatten_cons
abbrev Jw := @List.all_eq_true
abbrev Jx := @Nat.le_refl
abbrev Jy := @List.map_cons
abbrev Jz := @Bool.not_false
abbrev J10 := @Bool.and_false
abbrev J11 := @List.length_append
abbrev J12 := @List.take_length
abbrev J13 := @Nat.pow_le_pow_right
abbrev J14 := @List.drop_of_length_le
abbrev J15 := @Option.some.injEq
abbrev J16 := @List.append_assoc
abbrev J17 := @List.mem_reverse
abbrev J18 := @List.pairwise_map
abbrev J19 := @List.length_cons
abbrev J1a := @List.range_succ
abbrev J1b := @Bool.eq_iff_iff
abbrev J1c := @List.any_eq_true
abbrev J1d := @List.take_of_length_le
abbrev J1e := @List.pairwise_cons
abbrev J1f := @List.length_singleton
abbrev J1g := @List.foldl_cons
abbrev J1h := @Bool.false_or
abbrev J1i := @Bool.eq_false_iff
abbrev J1j := @List.flatMap_cons
abbrev J1k := @Decidable.byContradiction
abbrev J1l := @Bool.false_and
abbrev J1m := @List.cons_append
abbrev J1n := @List.drop_length
abbrev J1o := @List.map_congr_left
abbrev J1p := @List.flatten_append
abbrev J1q := @decide_eq_false_iff_not
abbrev J1r := @List.sum_cons
abbrev J1s := @List.filter_append
abbrev J1t := @List.length_set
abbrev J1u := @List.pairwise_lt_range
abbrev J1v := @List.singleton_append
abbrev J1w := @List.mem_of_mem_drop
abbrev J1x := @List.flatMap_nil
abbrev J1y := @Prod.mk.injEq
abbrev J1z := @Int.le_refl
abbrev J20 := @List.nil_append
abbrev J21 := @Nat.pow_succ
abbrev J22 := @Nat.mod_lt
abbrev J23 := @List.length_eq_zero_iff
abbrev J24 := @List.reverse_cons
abbrev J25 := @List.any_eq_false
abbrev J26 := @List.getElem_take
abbrev J27 := @List.filter_eq_nil_iff
abbrev J28 := @List.length_filter_eq_length_iff
abbrev J29 := @List.set_append_right
abbrev J2a := @List.length_replicate
abbrev J2b := @List.take_append_drop
abbrev J2c := @Bool.or_eq_true
abbrev J2d := @List.Pairwise.filter
abbrev J2e := @List.mem_append
abbrev J2f := @Int.mul_comm
abbrev J2g := @Nat.mul_le_mul_right
abbrev J2h := @List.mem_cons_of_mem
abbrev J2i := @List.length_reverse
abbrev J2j := @List.mem_cons_self
abbrev J2k := @Bool.not_eq_true'
abbrev J2l := @List.mem_flatten
abbrev J2m := @List.length_nil
abbrev J2n := @Int.natCast_mul
variable {N : Nat}
theorem Y5 {x : Int} (h1 : -9223372036854775808 <= x := by omega) (h2 : x <= 9223372036854775807 := by omega) : w64 x = x := by
 unfold w64 IntKind.wrap;simp [IntKind.bits, IntKind.signed];omega
theorem Y1 {j : Nat} (h : j < 4611686018427387904 := by omega) : w64 ((j : Int) + 1) = ((j + 1 : Nat) : Int) := by
 rw [Y5]; omega
@[simp] theorem grd_true {α : Type} (x : Option α) : grd true x = x := rfl
@[simp] theorem grd_false {α : Type} (x : Option α) : grd false x = none := rfl
theorem Y14 {α : Type} {b : Int} (h : b ≠ 0) (x : Option α) : grz b x = x := by simp [grz, h]
@[simp] theorem letv_eq {α β : Type} (v : α) (k : α -> β) : letv v k = k v := rfl
theorem zS : (∀ (α : Type) (x y : α), cond true x y = x) /\ (∀ (α : Type) (x y : α), cond false x y = y) /\ (∀ (α : Type) (x : Option α), grd true x = x) /\ (∀ h : Decidable True, @decide True h = true) /\ (∀ h : Decidable False, @decide False h = false) /\ (∀ (α β : Type) (x : α) (f : α -> Option β), (some x).bind f = f x) /\ ((!true) = false) /\ ((!false) = true) := ⟨fun _ _ _ => rfl, fun _ _ _ => rfl, fun _ _ => rfl, fun h => by simp, fun h => by simp, fun _ _ _ _ => rfl, rfl, rfl⟩
theorem Y9h {α : Type} (j : Nat) (xs : List α) : inb (j : Int) xs = decide (j < xs.length) := by
 simp [inb]
theorem Y0 {α : Type} {j : Nat} {xs : List α} (h : j < xs.length) : inb (j : Int) xs = true := by simp [Y9h, h]
theorem Y2 {α : Type} {d : α} {j : Nat} {xs : List α} (h : j < xs.length) : at_ d xs (j : Int) = xs[j] := by simp [at_, h]
theorem Y15 {n : Nat} {b : Nat} (h : n * b <= 140737488355328) : makeOk (n : Int) b = true := by
 have h1 : (n : Int) * (b : Int) <= 140737488355328 := by grind
 have h2 : (0 : Int) <= n := by omega
 simp [makeOk, h1, h2]
theorem Y3j (bs : ByteArray) : ∀ (m i : Nat) (r : List UInt8), bs.size - i = m -> ByteArray.toList.loop bs i r = r.reverse ++ bs.data.toList.drop i
 | 0, i, r, h => by
  have hs : bs.data.toList.length = bs.size := rfl;unfold ByteArray.toList.loop;rw [Jj (by omega), J14 (by omega)]; simp
 | m + 1, i, r, h => by
  have hs : bs.data.toList.length = bs.size := rfl;unfold ByteArray.toList.loop;rw [Jf (by omega), Y3j bs m (i + 1) _ (by omega)];have hi : i < bs.data.toList.length := by omega
  rw [J8 hi];have hi2 : i < bs.data.size := by simpa using hi
  have : bs.get! i = bs.data.toList[i] := by
   show bs.data[i]! = _;rw [getElem!_pos bs.data i hi2]; simp
  rw [this]; simp
theorem Y28 (bs : ByteArray) : bs.toList = bs.data.toList := by
 unfold ByteArray.toList; rw [Y3j bs _ 0 [] rfl]; simp
theorem Y29 (a b : ByteArray) : seq a b = decide (a = b) := by
 unfold seq;rw [Y28, Y28];by_cases h : a = b
 ·subst h; simp
 ·have : ¬ a.data = b.data := fun h2 => h (ByteArray.ext h2);simp [h, this]
theorem bneI (a b : Int) : (a != b) = !decide (a = b) := by grind
theorem beqI (a b : Int) : (a == b) = decide (a = b) := by grind
theorem Y1e {p : Prop} [Decidable p] {α : Type} (x y : Option α) : (bif !decide p then x else y) = if decide p then y else x := by by_cases h : p <;> simp [h]
theorem loop {σ R : Type} (f : Nat -> σ -> Option R) (I : σ -> Prop) (μ : σ -> Nat) (Q : Option R -> Prop) (hstep : ∀ k s, I s -> Q (f (k + 1) s) \/ ∃ s', I s' /\ μ s' < μ s /\ f (k + 1) s = f k s') : ∀ (k : Nat) (s : σ), μ s < k -> I s -> Q (f k s)
 | 0, s, hk, hs => by omega
 | k + 1, s, hk, hs => by
  rcases hstep k s hs with h | ⟨s', h1, h2, h3⟩
  ·exact h
  ·rw [h3];exact loop f I μ Q hstep k s' (by omega) h1
theorem Y4s {α : Type} {out a : List α} {j : Nat} {y : α} (h1 : j < a.length) (h2 : j < out.length) (ht : out.take j = a.take j) (hy : y = a[j]) : (out.set j y).take (j + 1) = a.take (j + 1) := by
 subst hy;rw [List.take_set, J6 h2, J6 h1, ht];simp [J29, Jt, Nat.min_eq_left (Nat.le_of_lt h1)]
theorem fill {β : Type} {b : List β} (f : Nat -> List β -> Int -> Option (List β)) (hend : ∀ k out, f (k + 1) out (b.length : Int) = some out)
  (hstep : ∀ k out j (h : j < b.length), out.length = b.length -> f (k + 1) out (j : Int) = f k (out.set j b[j]) ((j + 1 : Nat) : Int)) {k : Nat} (hk : b.length < k) {out : List β} (ho : out.length = b.length) : f k out 0 = some b := by
 have := loop (fun k (s : List β × Nat) => f k s.1 (s.2 : Int)) (fun s => s.1.length = b.length /\ s.2 <= b.length /\ s.1.take s.2 = b.take s.2) (fun s => b.length - s.2) (fun o => o = some b) (fun k s hs => by
  obtain ⟨out, j⟩ := s;obtain ⟨h1, h2, h3⟩ := hs;simp only at h1 h2 h3 ⊢;by_cases hj : j < b.length
  ·right;exact ⟨(out.set j b[j], j + 1), ⟨by simp [h1], hj, Y4s hj (by omega) h3 rfl⟩, by grind⟩
  ·grind) k (out, 0) (by simpa using hk) ⟨ho, by simp, by simp⟩
 exact this
theorem Y3k {n : Nat} (p : Nat -> Bool) (f : Nat -> Int -> Option Bool) (hend : ∀ k, f (k + 1) (n : Int) = some true) (hstep : ∀ k j, j < n -> f (k + 1) (j : Int) = if p j then f k ((j + 1 : Nat) : Int) else some false) {k : Nat} (hk : n < k) : f k 0 = some (decide (∀ j, j < n -> p j = true)) := by
 have := loop (fun k (j : Nat) => f k (j : Int)) (fun j => j <= n /\ ∀ i, i < j -> p i = true) (fun j => n - j) (fun o => o = some (decide (∀ j, j < n -> p j = true))) (fun k j hs => by
  obtain ⟨h1, h2⟩ := hs;by_cases hj : j < n
  ·rw [hstep k j hj];cases hp : p j with
   | true =>
    right;exact ⟨j + 1, ⟨hj, fun i hi => by rcases Nat.lt_or_eq_of_le (Nat.le_of_lt_succ hi) with h | h; exact h2 i h; rw [h]; exact hp⟩, by omega, by simp⟩
   | false =>
    left;have : ¬ ∀ j, j < n -> p j = true := fun h => by grind
    simp [this]
  ·left;have : j = n := by omega
   subst this;rw [hend];symm;simpa using h2) k 0 (by simpa using hk) ⟨by omega, by omega⟩
 exact this
theorem Y9 {R : Type} {n : Nat} (p : Nat -> Bool) (no e : Option R) (f : Nat -> Int -> Option R) (hend : ∀ k, f (k + 1) (n : Int) = e) (hstep : ∀ k j, j < n -> f (k + 1) (j : Int) = if p j then f k ((j + 1 : Nat) : Int) else no) {k : Nat} (hk : n < k) : f k 0 = if ∀ j, j < n -> p j = true then e else no := by
 have := loop (fun k (j : Nat) => f k (j : Int)) (fun j => j <= n /\ ∀ i, i < j -> p i = true) (fun j => n - j) (fun o => o = if ∀ j, j < n -> p j = true then e else no) (fun k j hs => by
  obtain ⟨h1, h2⟩ := hs;by_cases hj : j < n
  ·rw [hstep k j hj];cases hp : p j with
   | true =>
    right;exact ⟨j + 1, ⟨hj, fun i hi => by rcases Nat.lt_or_eq_of_le (Nat.le_of_lt_succ hi) with h | h; exact h2 i h; rw [h]; exact hp⟩, by omega, by simp⟩
   | false =>
    left;have : ¬ ∀ j, j < n -> p j = true := fun h => by simp_all
    simp [this]
  ·left;have : j = n := by omega
   subst this;rw [hend, Jf h2]) k 0 (by simpa using hk) ⟨by omega, by omega⟩
 exact this
theorem first {n : Nat} (p : Nat -> Bool) (f : Nat -> Int -> Option Int) (hend : ∀ k, f (k + 1) (n : Int) = some (-1)) (hstep : ∀ k j, j < n -> f (k + 1) (j : Int) = if p j then some (j : Int) else f k ((j + 1 : Nat) : Int)) {k : Nat} (hk : n < k) :
  (∃ j, j < n /\ p j = true /\ (∀ i, i < j -> p i = false) /\ f k 0 = some (j : Int)) \/ ((∀ i, i < n -> p i = false) /\ f k 0 = some (-1)) := by
 have := loop (fun k (j : Nat) => f k (j : Int)) (fun j => j <= n /\ ∀ i, i < j -> p i = false) (fun j => n - j) (fun o => (∃ j, j < n /\ p j = true /\ (∀ i, i < j -> p i = false) /\ o = some (j : Int)) \/ ((∀ i, i < n -> p i = false) /\ o = some (-1))) (fun k j hs => by
  obtain ⟨h1, h2⟩ := hs;by_cases hj : j < n
  ·rw [hstep k j hj];cases hp : p j with
   | true => grind
   | false =>
    right;exact ⟨j + 1, ⟨hj, fun i hi => by rcases Nat.lt_or_eq_of_le (Nat.le_of_lt_succ hi) with h | h; exact h2 i h; rw [h]; exact hp⟩, by omega, by simp⟩
  ·grind) k 0 (by simpa using hk) ⟨by omega, by omega⟩
 exact this
theorem Yc {j : Nat} (h : 0 < j) (h2 : j < 4611686018427387904) : w64 ((j : Int) - 1) = ((j - 1 : Nat) : Int) := by
 rw [Y5]; omega
theorem Yb {α : Type} {i : Int} {xs : List α} (h0 : 0 <= i) (h : i < xs.length) : inb i xs = true := by simp [inb, h0, h]
theorem Y3l {α : Type} {d : α} {i : Int} {xs : List α} (h0 : 0 <= i) (h : i < xs.length) : at_ d xs i = xs[i.toNat]'(by omega) := by
 unfold at_;rw [List.getD_eq_getElem?_getD, Jh (by omega)];rfl
abbrev Rel := ByteArray × Int × Int
abbrev Fact := Int × List Int
abbrev Db := List Rel × List Fact
structure SmallDb (d : Db) : Prop where
 rels : d.1.length <= 1048576
 facts : d.2.length <= 1048576
 vals : ∀ f ∈ d.2, f.2.length <= 1048576
theorem Y67 {α : Type} [DecidableEq α] {a b : List α} (h : a.length = b.length) : (a = b) ↔ ∀ j, j < a.length -> (decide (a[j]? = b[j]?)) = true := by
 constructor
 ·grind
 ·intro h2;apply List.ext_getElem? ;intro j;by_cases hj : j < a.length
  ·grind
  ·grind
theorem l1In (N : Nat) (x a b : Int) : Z0s N x a b = some (decide (a <= x /\ x <= b)) := by
 unfold Z0s;by_cases h : a <= x <;> simp [h]
theorem Yk (N : Nat) (x a b : Int) : Z0j N x a b = some (decide (a <= x /\ x <= b)) := by
 unfold Z0j;by_cases h : a <= x <;> simp [h]
def validRel (r : Rel) : Bool := (Z5 0 r).getD false
theorem Y40 (N : Nat) (r : Rel) : Z5 N r = some (validRel r) := by
 have key : ∃ b, Z5 0 r = some b := by
  unfold Z5;by_cases h : r.1.size = 1
  ·have hb : ∃ b, byteAt r.1 0 = some b := by
    unfold byteAt;have : (0 : Int).toNat < r.1.size := by omega
    exact ⟨r.1[(0 : Int).toNat], by rw [Jf (by omega), getElem?_pos]⟩
   obtain ⟨b, hb⟩ := hb;rw [hb];simp only [J0, l1In];cases ((r.1.size : Int) == 1) with
   | false => exact ⟨_, rfl⟩
   | true =>
    cases decide ((b.toNat : Int) >= 97) with
    | false => exact ⟨_, rfl⟩
    | true =>
     cases decide ((b.toNat : Int) <= 122) with
     | false => exact ⟨_, rfl⟩
     | true =>
      cases decide (1 <= r.2.1 /\ r.2.1 <= 3) with
      | false => exact ⟨_, rfl⟩
      | true => exact ⟨_, rfl⟩
  ·have h0 : ((r.1.size : Int) == 1) = false := by rw [beqI]; simp; omega
   rw [h0]; exact ⟨false, rfl⟩
 obtain ⟨b, hb⟩ := key;have e : Z5 N r = Z5 0 r := by
  unfold Z5; simp [l1In]
 rw [e, validRel, hb]; rfl
theorem Y9i (N : Nat) (r : Rel) : Z2g N r = some (validRel r) := by
 rw [<- Y40 N r];unfold Z2g Z5;simp [l1In, Yk]
def validRels (l : List Rel) : Bool := decide ((∀ j, j < l.length -> (validRel (l.getD j (⟨#[]⟩, 0, 0)) && (decide (j = 0) || slt (l.getD (j - 1) (⟨#[]⟩, 0, 0)).1 (l.getD j (⟨#[]⟩, 0, 0)).1)) = true) /\ l.length <= 4)
theorem Y3 {α : Type} {d : α} {j : Nat} {xs : List α} (h : j < xs.length) : xs.getD j d = xs[j] := by simp [h]
theorem Y1r {l : List Rel} (hl : l.length <= 1048576) (hN : 1048576 < N) : Z0d N l = some (validRels l) := by
 unfold Z0d Z4c;rw [Y9 (n := l.length) (fun j => validRel (l.getD j (⟨#[]⟩, 0, 0)) && (decide (j = 0) || slt (l.getD (j - 1) (⟨#[]⟩, 0, 0)).1 (l.getD j (⟨#[]⟩, 0, 0)).1)) (some false) (some (decide (l.length <= 4))) (fun k i => Z0l N k l i)
  (fun k => by simp [Z0l, Z1i]; omega) (fun k j hj => ?_) (by omega)]
 ·unfold validRels;by_cases h : ∀ j, j < l.length -> (validRel (l.getD j (⟨#[]⟩, 0, 0)) && (decide (j = 0) || slt (l.getD (j - 1) (⟨#[]⟩, 0, 0)).1 (l.getD j (⟨#[]⟩, 0, 0)).1)) = true
  ·grind
  ·grind
 ·have h1 : (j : Int) < (l.length : Int) := by omega
  simp only [zS, Z0l, Z1i, h1, Y0 hj, Y2 hj, Y40, Y3 hj, Y1 (j := j)];cases validRel l[j] with
  | false => rfl
  | true =>
   simp only [zS, Jd];by_cases h0 : j = 0
   ·subst h0; simp
   ·have h3 : (j : Int) > 0 := by omega
    have h4 : j - 1 < l.length := by omega
    simp only [zS, h3, Yc (show 0 < j by omega) (by omega), Y0 h4, Y2 h4, h0, J1h, Y3 h4];cases slt l[j - 1].1 l[j].1 <;> rfl
theorem Y51 {l : List Rel} (hl : l.length <= 1048576) (hN : 1048576 < N) : Z0y N l = some (validRels l) := by
 rw [<- Y1r hl hN];unfold Z0y Z6o Z0d Z4c;rw [Y9 (n := l.length) (fun j => validRel (l.getD j (⟨#[]⟩, 0, 0)) && (decide (j = 0) || slt (l.getD (j - 1) (⟨#[]⟩, 0, 0)).1 (l.getD j (⟨#[]⟩, 0, 0)).1)) (some false) (some (decide (l.length <= 4))) (fun k i => Z0l N k l i)
  (fun k => by simp [Z0l, Z1i]; omega) (fun k j hj => ?_) (by omega),
  Y9 (n := l.length) (fun j => validRel (l.getD j (⟨#[]⟩, 0, 0)) && (decide (j = 0) || slt (l.getD (j - 1) (⟨#[]⟩, 0, 0)).1 (l.getD j (⟨#[]⟩, 0, 0)).1)) (some false) (some (decide (l.length <= 4))) (fun k i => Z1s N k l l (l.length : Int) i)
  (fun k => by simp [Z1s, Z3f]; omega) (fun k j hj => ?_) (by omega)]
 ·have h1 : (j : Int) < (l.length : Int) := by omega
  simp only [zS, Z1s, Z3f, h1, Y0 hj, Y2 hj, Y9i, Y3 hj, Y1 (j := j)];cases validRel l[j] with
  | false => rfl
  | true =>
   simp only [zS, Jd];by_cases h0 : j = 0
   ·subst h0; simp
   ·have h3 : (j : Int) > 0 := by omega
    have h4 : j - 1 < l.length := by omega
    simp only [zS, h3, Yc (show 0 < j by omega) (by omega), Y0 h4, Y2 h4, h0, J1h, Y3 h4];cases slt l[j - 1].1 l[j].1 <;> rfl
 ·have h1 : (j : Int) < (l.length : Int) := by omega
  simp only [zS, Z0l, Z1i, h1, Y0 hj, Y2 hj, Y40, Y3 hj, Y1 (j := j)];cases validRel l[j] with
  | false => rfl
  | true =>
   simp only [zS, Jd];by_cases h0 : j = 0
   ·subst h0; simp
   ·have h3 : (j : Int) > 0 := by omega
    have h4 : j - 1 < l.length := by omega
    simp only [zS, h3, Yc (show 0 < j by omega) (by omega), Y0 h4, Y2 h4, h0, J1h, Y3 h4];cases slt l[j - 1].1 l[j].1 <;> rfl
def validVals (xs : List Int) : Bool := xs.all fun x => decide (0 <= x /\ x <= 9)
theorem Y2s {α : Type} {d : α} {xs : List α} {p : α -> Bool} : (∀ j, j < xs.length -> p (xs.getD j d) = true) ↔ xs.all p = true := by
 rw [Jw];constructor
 ·intro h x hx;obtain ⟨i, hi, rfl⟩ := Jk.1 hx;have := h i hi
  rwa [Y3 hi] at this
 ·grind
def fact1 (l : List Rel) (f : Fact) : Bool := decide (0 <= f.1 /\ f.1 <= (l.length : Int) - 1) && (decide ((f.2.length : Int) = (l.getD f.1.toNat (⟨#[]⟩, 0, 0)).2.1) && validVals f.2)
theorem Y1s {l : List Rel} {f : Fact} (hl : l.length <= 1048576) (hf : f.2.length <= 1048576) (hN : 1048576 < N) : Z16 N l f = some (validRels l && fact1 l f) := by
 obtain ⟨r, v⟩ := f;unfold Z16 Z8v;rw [Y1r hl hN, J0];cases validRels l with
 | false => rfl
 | true =>
  simp only [zS, l1In, Jd, fact1];rw [Y5];by_cases h : 0 <= r /\ r <= (l.length : Int) - 1
  ·have h2 : r.toNat < l.length := by omega
   simp only [zS, h, and_self, Yb h.1 (show r < l.length by omega), Y3l h.1 (show r < l.length by omega), bneI, Y3 h2, Jd];by_cases h3 : (v.length : Int) = l[r.toNat].2.1
   ·simp only [zS, h3, Jd];rw [Y9 (n := v.length) (fun j => decide (0 <= v.getD j 0 /\ v.getD j 0 <= 9)) (some false) (some true) (fun k i => Z3i N k r v i) (fun k => by simp [Z3i, Z5i]) (fun k j hj => ?_) (by grind)]
    ·unfold validVals;by_cases h4 : ∀ j, j < v.length -> decide (0 <= v.getD j 0 /\ v.getD j 0 <= 9) = true
     ·rw [Jf h4, (Y2s (d := (0 : Int)) (p := fun x => decide (0 <= x /\ x <= 9))).1 h4]
     ·rw [Jj h4];congr 1; symm;rw [J1i];exact fun h5 => h4 ((Y2s (d := (0 : Int)) (p := fun x => decide (0 <= x /\ x <= 9))).2 h5)
    ·have h1 : (j : Int) < (v.length : Int) := by omega
     simp only at hf;simp only [zS, Z3i, Z5i, h1, Y0 hj, Y2 hj, l1In, Y3 hj, Y1 (j := j), Y1e]
   ·grind
  ·grind
def cmpInts : List Int -> List Int -> Int
 | [], [] => 0
 | [], _ :: _ => -1
 | _ :: _, [] => 1
 | a :: x, b :: y => if a < b then -1 else if a > b then 1 else cmpInts x y
theorem Y3m : ∀ (a b : List Int), cmpInts a b = 0 ↔ a = b
 | [], [] => by simp [cmpInts]
 | [], _ :: _ => by simp [cmpInts]
 | _ :: _, [] => by simp [cmpInts]
 | a :: x, b :: y => by
  simp [cmpInts];split
  ·grind
  ·split
   ·grind
   ·rw [Y3m x y];constructor
    ·grind
    ·grind
theorem Y52 {a b : List Int} (ha : a.length <= 1048576) (hb : b.length <= 1048576) (hN : 1048576 < N) : Z6b N a b = some (cmpInts a b) := by
 have := loop (fun k (j : Nat) => Z4s N k a b (j : Int)) (fun j => j <= a.length /\ j <= b.length /\ cmpInts (a.drop j) (b.drop j) = cmpInts a b) (fun j => a.length - j) (fun o => o = some (cmpInts a b)) (fun k j hs => by
  obtain ⟨h1, h2, h3⟩ := hs;by_cases hj : j < a.length
  ·by_cases hjb : j < b.length
   ·have e1 : (j : Int) < (a.length : Int) := by omega
    have e2 : (j : Int) < (b.length : Int) := by omega
    simp only [zS, Z4s, Z6k, e1, e2, Y0 hj, Y0 hjb, Y2 hj, Y2 hjb, Y1 (j := j)];rw [J8 hj, J8 hjb] at h3;simp [cmpInts] at h3;by_cases hlt : a[j] < b[j]
    ·grind
    ·grind
   ·left;have e1 : (j : Int) < (a.length : Int) := by omega
    have e2 : ¬ (j : Int) < (b.length : Int) := by omega
    have e3 : ¬ (a.length : Int) < (b.length : Int) := by omega
    have e4 : (a.length : Int) > (b.length : Int) := by omega
    simp [Z4s, Z6k, e1, e2, e3, e4, J7, J3];rw [J8 hj, J14 (l := b) (by omega)] at h3;rw [<- h3]; rfl
  ·left;have hja : j = a.length := by omega
   have e1 : ¬ (j : Int) < (a.length : Int) := by omega
   simp only [zS, Z4s, Z6k, e1];rw [J14 (l := a) (by omega)] at h3;by_cases hlt : a.length < b.length
   ·have e2 : (a.length : Int) < (b.length : Int) := by omega
    simp only [zS, e2];rw [J8 (by omega)] at h3;rw [<- h3]; rfl
   ·have e2 : ¬ (a.length : Int) < (b.length : Int) := by omega
    have e3 : ¬ (a.length : Int) > (b.length : Int) := by omega
    simp only [zS, e2, e3];rw [J14 (by omega)] at h3;rw [<- h3]; rfl) N 0 (by omega) ⟨by omega, by omega, rfl⟩
 exact this
theorem Y8l {a b : List Int} (ha : a.length <= 1048576) (hb : b.length <= 1048576) (hN : 1048576 < N) : Z27 N a b = some (cmpInts a b) := by
 have hc : ∀ x y : Int, Z4e N x y = some (if x < y then -1 else if x > y then 1 else 0) := by
  intro x y;simp [Z4e, Z5q, J3];by_cases h1 : x < y
  ·simp [h1]
  ·by_cases h2 : x > y <;> simp [h1, h2]
 have := loop (fun k (j : Nat) => Z19 N k a b a (a.length : Int) (j : Int)) (fun j => j <= a.length /\ j <= b.length /\ cmpInts (a.drop j) (b.drop j) = cmpInts a b) (fun j => a.length - j) (fun o => o = some (cmpInts a b)) (fun k j hs => by
  obtain ⟨h1, h2, h3⟩ := hs;by_cases hj : j < a.length
  ·have e1 : (j : Int) < (a.length : Int) := by omega
   by_cases hjb : j < b.length
   ·have e2 : ¬ (j : Int) >= (b.length : Int) := by omega
    simp only [zS, Z19, Z1w, e1, e2, Y0 hj, Y0 hjb, Y2 hj, Y2 hjb, Y1 (j := j), hc];rw [J8 hj, J8 hjb] at h3;simp [cmpInts] at h3;by_cases hlt : a[j] < b[j]
    ·left; simp only [hlt, if_true] at h3 ⊢; rw [<- h3]; rfl
    ·by_cases hgt : a[j] > b[j]
     ·left; simp only [hlt, hgt, if_true, if_false] at h3 ⊢; rw [<- h3]; rfl
     ·grind
   ·left;have e2 : (j : Int) >= (b.length : Int) := by omega
    simp only [zS, Z19, Z1w, e1, e2, Y0 hj];rw [J8 hj, J14 (l := b) (by omega)] at h3;rw [<- h3]; rfl
  ·left;have e1 : ¬ (j : Int) < (a.length : Int) := by omega
   simp only [zS, Z19, Z1w, e1];rw [J14 (l := a) (by omega)] at h3;by_cases hlt : a.length < b.length
   ·have e2 : (a.length : Int) < (b.length : Int) := by omega
    simp only [zS, e2];rw [J8 (by omega)] at h3;rw [<- h3]; rfl
   ·have e2 : ¬ (a.length : Int) < (b.length : Int) := by omega
    simp only [zS, e2];rw [J14 (by omega)] at h3;rw [<- h3]; rfl) N 0 (by omega) ⟨by omega, by omega, rfl⟩
 exact this
def cmpFacts (a b : Fact) : Int := if a.1 < b.1 then -1 else if a.1 > b.1 then 1 else cmpInts a.2 b.2
theorem Y9j {a b : Fact} (ha : a.2.length <= 1048576) (hb : b.2.length <= 1048576) (hN : 1048576 < N) : Z3a N a b = some (cmpFacts a b) := by
 unfold Z3a cmpFacts;rw [Y52 ha hb hN];by_cases h1 : a.1 < b.1
 ·simp [h1]
 ·grind
theorem Y9k {a b : Fact} (ha : a.2.length <= 1048576) (hb : b.2.length <= 1048576) (hN : 1048576 < N) : Z3c N a b = some (cmpFacts a b) := by
 unfold Z3c cmpFacts Z83;rw [Y8l ha hb hN, bneI];by_cases h1 : a.1 < b.1
 ·grind
 ·grind
theorem Y53 {α : Type} (d : α) {xs : List α} {p : α -> Bool} : (∃ j, j < xs.length /\ p (xs.getD j d) = true) ↔ xs.any p = true := by
 rw [J1c];constructor
 ·grind
 ·rintro ⟨x, hx, h⟩
  obtain ⟨i, hi, rfl⟩ := Jk.1 hx;exact ⟨i, hi, by grind⟩
theorem Ye {α : Type} {d : α} {xs : List α} {p : α -> Bool} {g : Option Int} (h : (∃ j, j < xs.length /\ p (xs.getD j d) = true /\ (∀ i, i < j -> p (xs.getD i d) = false) /\ g = some (j : Int)) \/ ((∀ i, i < xs.length -> p (xs.getD i d) = false) /\ g = some (-1))) : (g.bind fun r => some (decide (r >= 0))) = some (xs.any p) := by
 rcases h with ⟨j, h1, h2, _, rfl⟩ | ⟨h1, rfl⟩
 ·rw [(Y53 d).1 ⟨j, h1, h2⟩];simp
 ·have : xs.any p = false := by
   rw [J1i];intro h;obtain ⟨j, hj, h2⟩ := (Y53 d).2 h;rw [h1 j hj] at h2; simp at h2
  rw [this]; rfl
theorem Y7f {v : List Int} (hv : v.length <= 1048576) (hN : 1048576 < N) : Z4v N v = some (validVals v) := by
 unfold Z4v Z0c Z0i Z2h;rw [Ye (d := (0 : Int)) (xs := v) (p := fun x => !decide (0 <= x /\ x <= 9)) (first (n := v.length) (fun j => !decide (0 <= v.getD j 0 /\ v.getD j 0 <= 9)) (fun k i => Z0b N k v (v.length : Int) i) (fun k => by simp [Z0b, Z11]) (fun k j hj => ?_) (by omega))]
 ·simp only [J0, validVals];rw [show (v.any fun x => !decide (0 <= x /\ x <= 9)) = !(v.all fun x => decide (0 <= x /\ x <= 9)) from (List.not_all_eq_any_not (l := v) (p := fun x => decide (0 <= x /\ x <= 9))).symm, Bool.not_not]
 ·have h1 : (j : Int) < (v.length : Int) := by omega
  simp only [zS, Z0b, Z11, h1, Y0 hj, Y2 hj, Z4l, Yk, Y3 hj, Y1 (j := j)];cases decide (0 <= v[j] /\ v[j] <= 9) <;> rfl
theorem Y7g {l : List Rel} {f : Fact} (hl : l.length <= 1048576) (hf : f.2.length <= 1048576) (hN : 1048576 < N) : Z7j N l f = some (fact1 l f) := by
 obtain ⟨r, v⟩ := f;simp only [Z7j, Yk, J0, fact1];rw [Y5];by_cases h : 0 <= r /\ r <= (l.length : Int) - 1
 ·have h2 : r.toNat < l.length := by omega
  simp only [zS, h, and_self, Yb h.1 (show r < l.length by omega), Y3l h.1 (show r < l.length by omega), beqI, Y3 h2, Jd];rw [Y7f hf hN];cases decide ((v.length : Int) = l[r.toNat].2.1) <;> rfl
 ·grind
def factAt (d : Db) (j : Nat) : Fact := d.2.getD j (0, [])
def factsOk (d : Db) : Prop := ∀ j, j < d.2.length -> (fact1 d.1 (factAt d j) && (decide (j = 0) || decide (cmpFacts (factAt d (j - 1)) (factAt d j) < 0))) = true
instance (d : Db) : Decidable (factsOk d) := by unfold factsOk; infer_instance
def validDb (d : Db) : Bool := validRels d.1 && (decide (d.2.length <= 14) && decide (factsOk d))
theorem Y16 {d : Db} (h : SmallDb d) (hN : 1048576 < N) : Z0 N d = some (validDb d) := by
 have hv : ∀ j, j < d.2.length -> (factAt d j).2.length <= 1048576 := fun j hj => by unfold factAt; rw [Y3 hj]; exact h.vals _ (J5 hj)
 unfold Z0 Z7e;rw [Y9 (n := d.2.length) (fun j => (validRels d.1 && fact1 d.1 (factAt d j)) && (decide (j = 0) || decide (cmpFacts (factAt d (j - 1)) (factAt d j) < 0))) (some false) (some (validRels d.1 && decide (d.2.length <= 14))) (fun k i => Z22 N k d.1 d.2 i)
  (fun k => by
   simp only [zS, Z22, Z45, Je, Y1r h.rels hN];cases validRels d.1 with
   | false => rfl
   | true => simp only [J7, Jd, J15]; exact decide_eq_decide.2 (by omega)) (fun k j hj => ?_) (by have := h.facts; omega)]
 ·unfold validDb factsOk;cases hr : validRels d.1 with
  | true =>
   simp only [Jd];by_cases h2 : ∀ j, j < d.2.length -> (fact1 d.1 (factAt d j) && (decide (j = 0) || decide (cmpFacts (factAt d (j - 1)) (factAt d j) < 0))) = true
   ·grind
   ·grind
  | false => simp
 ·have h1 : (j : Int) < (d.2.length : Int) := by omega
  have hf := h.facts;have ha : at_ (0, []) d.2 (j : Int) = factAt d j := by unfold factAt; rw [Y2 hj, Y3 hj]
  simp only [zS, Z22, Z45, h1, Y0 hj, ha, Y1s h.rels (hv j hj) hN, Y1 (j := j)];cases validRels d.1 && fact1 d.1 (factAt d j) with
  | false => rfl
  | true =>
   simp only [zS, Jd];by_cases h0 : j = 0
   ·subst h0; simp
   ·have h3 : (j : Int) > 0 := by omega
    have h4 : j - 1 < d.2.length := by omega
    have hb : at_ (0, []) d.2 ((j - 1 : Nat) : Int) = factAt d (j - 1) := by unfold factAt; rw [Y2 h4, Y3 h4]
    simp only [zS, h3, Yc (show 0 < j by omega) (by omega), Y0 h4, hb, Y9j (hv _ h4) (hv _ hj) hN, h0, J1h];by_cases h5 : cmpFacts (factAt d (j - 1)) (factAt d j) < 0
    ·grind
    ·grind
theorem Y7h {d : Db} (h : SmallDb d) (hN : 1048576 < N) : Z1d N d = some (validDb d) := by
 have hv : ∀ j, j < d.2.length -> (factAt d j).2.length <= 1048576 := fun j hj => by unfold factAt; rw [Y3 hj]; exact h.vals _ (J5 hj)
 unfold Z1d Z7k;rw [Y51 h.rels hN, J0];unfold validDb;cases validRels d.1 with
 | false => rfl
 | true =>
  simp [J3];by_cases h14 : d.2.length <= 14
  ·have : ¬ (d.2.length : Int) > 14 := by omega
   simp [this, J3, h14];rw [Y9 (n := d.2.length) (fun j => fact1 d.1 (factAt d j) && (decide (j = 0) || decide (cmpFacts (factAt d (j - 1)) (factAt d j) < 0))) (some false) (some true) (fun k i => Z28 N k d.1 d.2 d.2 (d.2.length : Int) i)
    (fun k => by simp [Z28, Z48]) (fun k j hj => ?_) (by omega)]
   ·unfold factsOk;by_cases h2 : ∀ j, j < d.2.length -> (fact1 d.1 (factAt d j) && (decide (j = 0) || decide (cmpFacts (factAt d (j - 1)) (factAt d j) < 0))) = true
    ·grind
    ·grind
   ·have h1 : (j : Int) < (d.2.length : Int) := by omega
    have ha : at_ (0, []) d.2 (j : Int) = factAt d j := by unfold factAt; rw [Y2 hj, Y3 hj]
    simp only [zS, Z28, Z48, h1, Y0 hj, ha, Y7g h.rels (hv j hj) hN, Y1 (j := j)];cases fact1 d.1 (factAt d j) with
    | false => rfl
    | true =>
     simp only [zS, Jd];by_cases h0 : j = 0
     ·subst h0; simp
     ·have h3 : (j : Int) > 0 := by omega
      have h4 : j - 1 < d.2.length := by omega
      have hb : at_ (0, []) d.2 ((j - 1 : Nat) : Int) = factAt d (j - 1) := by unfold factAt; rw [Y2 h4, Y3 h4]
      simp only [zS, h3, Yc (show 0 < j by omega) (by omega), Y0 h4, hb, Y9k (hv _ h4) (hv _ hj) hN, h0, J1h];by_cases h5 : cmpFacts (factAt d (j - 1)) (factAt d j) < 0
      ·grind
      ·grind
  ·grind
theorem Y25 : ∀ (a b c : List Int), cmpInts a b < 0 -> cmpInts b c < 0 -> cmpInts a c < 0
 | [], [], c, h, _ => by grind
 | [], _ :: _, [], _, h => by simp [cmpInts] at h
 | [], _ :: _, _ :: _, _, _ => by simp [cmpInts]
 | _ :: _, [], c, h, _ => by simp [cmpInts] at h
 | _ :: _, _ :: _, [], _, h => by simp [cmpInts] at h
 | x :: a, y :: b, z :: c, h1, h2 => by
  simp [cmpInts] at h1 h2 ⊢;by_cases hxy : x < y
  ·grind
  ·rw [Jj hxy] at h1;split at h1
   ·omega
   ·have : x = y := by omega
    subst this;by_cases hyz : x < z
    ·grind
    ·rw [Jj hyz] at h2 ⊢;split at h2
     ·omega
     ·rename_i hg;rw [Jj hg];exact Y25 a b c h1 h2
theorem Y41 {a b c : Fact} (h1 : cmpFacts a b < 0) (h2 : cmpFacts b c < 0) : cmpFacts a c < 0 := by
 unfold cmpFacts at h1 h2 ⊢;by_cases hab : a.1 < b.1
 ·grind
 ·rw [Jj hab] at h1;split at h1
  ·omega
  ·by_cases hbc : b.1 < c.1
   ·grind
   ·rw [Jj hbc] at h2;split at h2
    ·omega
    ·rw [Jj (by omega), Jj (by omega)];exact Y25 _ _ _ h1 h2
theorem Z0ch : ∀ (n : Nat) (a b c : List Int), cmpInts a b < 0 -> cmpInts b c < 0 -> a.take n = c.take n -> a.length = b.length -> b.length = c.length -> a.take n = b.take n
 | 0, _, _, _, _, _, _, _, _ => by simp
 | n + 1, [], [], _, h, _, _, _, _ => by grind
 | n + 1, [], _ :: _, _, _, _, _, h, _ => by simp at h
 | n + 1, _ :: _, [], _, _, _, _, h, _ => by simp at h
 | n + 1, _ :: _, _ :: _, [], _, _, _, _, h => by simp at h
 | n + 1, x :: a, y :: b, z :: c, h1, h2, h3, h4, h5 => by
  simp at h3 ⊢;simp [cmpInts] at h1 h2;obtain ⟨rfl, h3⟩ := h3;by_cases hxy : x < y
  ·grind
  ·rw [Jj hxy] at h1;split at h1
   ·omega
   ·have : x = y := by omega
    subst this;rw [Jj (by omega), Jj (by omega)] at h2;exact ⟨rfl, Z0ch n a b c h1 h2 h3 (by simpa using h4) (by simpa using h5)⟩
section
variable (S : Nat -> Nat -> Bool)
def blk (n s : Nat) : List Nat := (List.range n).filter (S s)
def isSt (s : Nat) : Bool := (List.range s).all fun k => !S s k
def sts (n : Nat) : List Nat := (List.range n).filter (isSt S)
def B (n : Nat) : List (List Nat) := (sts S n).map (blk S n)
structure Runs (n : Nat) : Prop where
 refl : ∀ i, S i i = true
 symm : ∀ i k, S i k = true -> S k i = true
 trans : ∀ i j k, S i j = true -> S j k = true -> S i k = true
 run : ∀ i j k, i <= j -> j <= k -> k < n -> S i k = true -> S i j = true
variable {S}
theorem Y6 {s : Nat} : isSt S s = true ↔ ∀ k, k < s -> S s k = false := by
 unfold isSt;rw [Jw];constructor
 ·grind
 ·grind
theorem Ym (n : Nat) : sts S (n + 1) = sts S n ++ (if isSt S n = true then [n] else []) := by
 unfold sts;rw [J1a, J1s];congr 1;by_cases h : isSt S n = true <;> simp [h]
theorem Y1f (n s : Nat) : blk S (n + 1) s = blk S n s ++ (if S s n = true then [n] else []) := by
 unfold blk;rw [J1a, J1s];congr 1;by_cases h : S s n = true <;> simp [h]
theorem Y1o {n s : Nat} : s ∈ sts S n ↔ s < n /\ isSt S s = true := by
 unfold sts; rw [Jm, Ji]
theorem Y7i {n : Nat} (h : isSt S n = true) : blk S n n = [] := by
 unfold blk;rw [J27];intro k hk;rw [Y6.1 h k (Ji.1 hk)]; simp
theorem Y6x {N n : Nat} (hS : Runs S N) (h : isSt S n = true) : B S (n + 1) = B S n ++ [[n]] := by
 unfold B;rw [Ym, Jf h, Jg];congr 1
 ·apply J1o;intro s hs;obtain ⟨h1, h2⟩ := Y1o.1 hs;rw [Y1f, Jj, Jl];intro hc;have := hS.symm _ _ hc;rw [Y6.1 h s h1] at this;simp at this
 ·simp;rw [Y1f, Y7i h, Jf (hS.refl n)]; rfl
theorem Y1b {N : Nat} (hS : Runs S N) : ∀ n, 0 < n -> n <= N -> ∃ A t, sts S n = A ++ [t] /\ t < n /\ isSt S t = true /\ ∀ k, t <= k -> k < n -> S t k = true
 | 0, h, _ => by omega
 | n + 1, _, hN => by
  by_cases h : isSt S n = true
  ·refine ⟨sts S n, n, by rw [Ym, Jf h], by omega, h, fun k h1 h2 => ?_⟩;have : k = n := by omega
   subst this;exact hS.refl _
  ·have hn : 0 < n := by
    apply J1k;intro h0;have : n = 0 := by omega
    subst this;apply h;rw [Y6]; intro k hk; omega
   obtain ⟨A, t, e, h1, h2, h3⟩ := Y1b hS n hn (by omega);refine ⟨A, t, by rw [Ym, Jj h, Jl]; exact e, by omega, h2, fun k k1 k2 => ?_⟩;by_cases hk : k < n
   ·grind
   ·have : k = n := by omega
    subst this;obtain ⟨q, q1, q2⟩ : ∃ q, q < k /\ S k q = true := by
     apply J1k;intro hc;apply h;rw [Y6];intro q hq;rw [J1i];exact fun hs => hc ⟨q, hq, hs⟩
    have q3 := hS.symm _ _ q2;have q4 := hS.run q (k - 1) k (by omega) (by omega) (by omega) q3;exact hS.trans _ _ _ (h3 (k - 1) (by omega) (by omega)) (hS.trans _ _ _ (hS.symm _ _ q4) q3)
theorem Y6y {N n : Nat} (hS : Runs S N) (h : ¬ isSt S n = true) (hn : n < N) {A : List Nat} {t : Nat} (e : sts S n = A ++ [t]) (ht : S t n = true) : B S (n + 1) = A.map (blk S n) ++ [blk S n t ++ [n]] := by
 unfold B;rw [Ym, Jj h, Jl, e, Jg];congr 1
 ·apply J1o;intro s hs;rw [Y1f, Jj, Jl];intro hc;have hst := hS.trans _ _ _ hc (hS.symm _ _ ht);have m1 := Y1o.1 (show s ∈ sts S n by grind);have m2 := Y1o.1 (show t ∈ sts S n by rw [e]; simp);have hne : s ≠ t := by
   have hnd : (sts S n).Nodup := List.nodup_range.sublist List.filter_sublist;rw [e] at hnd;exact fun h => (List.nodup_append.1 hnd).2.2 s hs t (by simp) h
  by_cases hlt : s < t
  ·have := Y6.1 m2.2 s hlt;rw [hS.symm _ _ hst] at this; simp at this
  ·have := Y6.1 m1.2 t (by omega);rw [hst] at this; simp at this
 ·simp;rw [Y1f, Jf ht]
theorem Y36 {n s : Nat} (hr : S s s = true) (hs : s < n) : ∃ h r, blk S n s = h :: r /\ S s h = true /\ (h = s ↔ isSt S s = true) := by
 have hm : s ∈ blk S n s := Jm.2 ⟨Ji.2 hs, hr⟩;cases hb : blk S n s with
 | nil => grind
 | cons h r =>
  have hh : (blk S n s).head? = some h := by rw [hb]; rfl
  unfold blk at hh;rw [List.head?_filter, List.find?_range_eq_some] at hh;obtain ⟨h1, h2, h3⟩ := hh;refine ⟨h, r, rfl, h1, ?_⟩;constructor
  ·intro e;subst e;rw [Y6];intro k hk;have := h3 k hk;simpa using this
  ·intro hst;have h4 : ¬ h < s := fun hlt => by
    rw [Y6.1 hst h hlt] at h1; simp at h1
   have h5 : ¬ s < h := fun hlt => by grind
   omega
theorem Y37 {N : Nat} (hS : Runs S N) : ∀ n, n <= N -> ((B S n).map List.length).sum = n
 | 0, _ => by simp [B, sts]
 | n + 1, hn => by
  by_cases h : isSt S n = true
  ·rw [Y6x hS h, Jg, List.sum_append, Y37 hS n (by omega)]; simp
  ·have hn0 : 0 < n := by
    apply J1k;intro h0;have : n = 0 := by omega
    subst this;apply h;rw [Y6]; intro k hk; omega
   obtain ⟨A, t, e, h1, h2, h3⟩ := Y1b hS (n + 1) (by omega) hn;have e' : sts S n = A ++ [t] := by rw [Ym, Jj h, Jl] at e; exact e
   have ih := Y37 hS n (by omega);rw [Y6y hS h (by omega) e' (h3 n (by omega) (by omega))];unfold B at ih;rw [e'] at ih;simp at ih ⊢;omega
end
def keyLen (l : List Rel) (f : Fact) : Int := (l.getD f.1.toNat (⟨#[]⟩, 0, 0)).2.2
def keyOf (l : List Rel) (f : Fact) : List Int := f.2.take (keyLen l f).toNat
def sameK (l : List Rel) (a b : Fact) : Bool := decide (a.1 = b.1) && decide (keyOf l a = keyOf l b)
theorem Y54 {r : Rel} (h : validRel r = true) : 0 <= r.2.2 /\ r.2.2 <= r.2.1 := by
 unfold validRel Z5 at h;by_cases h1 : r.1.size = 1
 ·have hb : ∃ b, byteAt r.1 0 = some b := by
   unfold byteAt;have : (0 : Int).toNat < r.1.size := by omega
   exact ⟨r.1[(0 : Int).toNat], by rw [Jf (by omega), getElem?_pos]⟩
  obtain ⟨b, hb⟩ := hb;rw [hb] at h;simp only [J0, l1In] at h;by_cases h2 : 0 <= r.2.2 /\ r.2.2 <= r.2.1
  ·exact h2
  ·grind
 ·grind
theorem Y2a {l : List Rel} (h : validRels l = true) {j : Nat} (hj : j < l.length) : validRel (l.getD j (⟨#[]⟩, 0, 0)) = true := by
 have := (of_decide_eq_true h).1 j hj;rw [Ja] at this;exact this.1
structure GoodFact (l : List Rel) (f : Fact) : Prop where
 lo : 0 <= f.1
 hi : f.1 < (l.length : Int)
 len : (f.2.length : Int) = (l.getD f.1.toNat (⟨#[]⟩, 0, 0)).2.1
 k0 : 0 <= keyLen l f
 k1 : keyLen l f <= (f.2.length : Int)
theorem Yn {l : List Rel} {f : Fact} (hl : validRels l = true) (hf : fact1 l f = true) : GoodFact l f := by
 unfold fact1 at hf;rw [Ja, Ja, J2, J2] at hf;obtain ⟨⟨h1, h2⟩, h3, h4⟩ := hf;have := Y54 (Y2a hl (j := f.1.toNat) (by omega));exact ⟨h1, by omega, h3, this.1, by rw [h3]; exact this.2⟩
theorem Y7j {a b : List Int} (ha : a.length <= 1048576) (hN : 1048576 < N) : Z1y N a b = some (decide (a = b)) := by
 unfold Z1y Z70;by_cases hl : a.length = b.length
 ·have : ((a.length : Int) != (b.length : Int)) = false := by rw [bneI]; simp; omega
  rw [this, J3, Y3k (n := a.length) (fun j => decide (a[j]? = b[j]?)) (fun k i => Z1x N k a b (a.length : Int) i) (fun k => by simp [Z1x, Z3p]) (fun k j hj => ?_) (by omega)]
  ·congr 1;exact decide_eq_decide.2 (Y67 hl).symm
  ·have h1 : (j : Int) < (a.length : Int) := by omega
   have hjb : j < b.length := by omega
   simp only [zS, Z1x, Z3p, h1, Y0 hj, Y0 hjb, Y2 hj, Y2 hjb, Y1 (j := j), bneI, Jh hj, Jh hjb, J15];by_cases h : a[j] = b[j] <;> simp [h]
 ·have : ((a.length : Int) != (b.length : Int)) = true := by rw [bneI]; simp; omega
  have hne : ¬ a = b := fun h => hl (by rw [h]);rw [this, J7, J4 hne]
theorem Yg {lo hi : Int} {n : Nat} (h1 : 0 <= lo) (h2 : lo <= hi) (h3 : hi <= (n : Int)) : subOk lo hi n = true := by
 unfold subOk; rw [J1 h1, J1 h2, J1 h3]; rfl
theorem Y4 {α : Type} {s x : List α} {b : Nat} (hb : b <= 1000 := by omega) (h : s.length + x.length <= 140737488355 := by first | omega | (simp only [J1f, J2m]; omega) | (simp <;> omega)) : appOk s x b = true := by
 refine J1 ?_
 calc (s.length + x.length) * b <= 140737488355 * 1000 := Nat.mul_le_mul h hb
  _ <= _ := by omega
theorem Y6i {l : List Rel} {f : Fact} (hl : l.length <= 1048576) (hf : f.2.length <= 1048576) (hN : 1048576 < N) (hv : validRels l = true) (h1 : fact1 l f = true) : Z74 N l f = some (keyOf l f) := by
 have g := Yn hv h1;have e : (at_ (⟨#[]⟩, 0, 0) l f.1).2.2 = keyLen l f := rfl;unfold Z74;rw [Y1s hl hf hN, hv, h1, J0, Yb g.lo g.hi, grd_true];simp [J3, e];rw [Yg (by omega) g.k0 g.k1, grd_true, Y4, grd_true];rfl
theorem Y8m {l : List Rel} {a b : Fact} (hl : l.length <= 1048576) (ha : a.2.length <= 1048576) (hb : b.2.length <= 1048576) (hN : 1048576 < N) (hv : validRels l = true) (h1 : fact1 l a = true) (h2 : fact1 l b = true) : Z3t N l a b = some (sameK l a b) := by
 unfold Z3t sameK;rw [Y1s hl ha hN, Y1s hl hb hN, hv, h1, h2];simp only [zS, Bool.and_self, beqI];by_cases h : a.1 = b.1
 ·rw [J1 h, J7, Y6i hl ha hN hv h1, Y6i hl hb hN hv h2, J0, J0,
   Y52 (by unfold keyOf; rw [Jt]; omega) (by unfold keyOf; rw [Jt]; omega) hN, J0, Jd]
  congr 1;exact decide_eq_decide.2 (Y3m _ _)
 ·grind
theorem Y8n {l : List Rel} {a b : Fact} (ha : a.2.length <= 1048576) (hb : b.2.length <= 1048576) (hN : 1048576 < N) (hv : validRels l = true) (h1 : fact1 l a = true) (h2 : fact1 l b = true) : Z6q N l a b = some (sameK l a b) := by
 have g := Yn hv h1;have g' := Yn hv h2;have e : (at_ (⟨#[]⟩, 0, 0) l a.1).2.2 = keyLen l a := rfl;unfold Z6q sameK;rw [bneI];by_cases h : a.1 = b.1
 ·have hk : keyLen l a = keyLen l b := by unfold keyLen; rw [h]
  rw [J1 h, Jc, J3, Yb g.lo g.hi, grd_true, e];rw [Yg (by omega) g.k0 g.k1, grd_true, Yg (by omega) g.k0 (by have := g'.k1; rw [<- hk] at this; exact this), grd_true, Y7j (by grind) hN, J0, Jd];unfold keyOf;rw [<- hk]
 ·simp_all
def sameD (d : Db) (i k : Nat) : Bool := sameK d.1 (factAt d i) (factAt d k)
structure ValidDb (d : Db) : Prop where
 rels : validRels d.1 = true
 few : d.2.length <= 14
 fact : ∀ j, j < d.2.length -> fact1 d.1 (factAt d j) = true
 lt : ∀ i k, i < k -> k < d.2.length -> cmpFacts (factAt d i) (factAt d k) < 0
theorem Y7 {d : Db} (h : validDb d = true) : ValidDb d := by
 unfold validDb at h;rw [Ja, Ja, J2, J2] at h;obtain ⟨h1, h2, h3⟩ := h;refine ⟨h1, h2, fun j hj => ?_, ?_⟩
 ·have := h3 j hj;rw [Ja] at this;exact this.1
 ·have step : ∀ j, 0 < j -> j < d.2.length -> cmpFacts (factAt d (j - 1)) (factAt d j) < 0 := by
   intro j h0 hj;have := h3 j hj;rw [Ja, J2c, J2, J2] at this;rcases this.2 with h | h
   ·omega
   ·exact h
  intro i k
  induction k with
  | zero => intro h; omega
  | succ k ih =>
   intro hik hk;have hs := step (k + 1) (by omega) hk;rw [Nat.add_sub_cancel] at hs;by_cases h : i = k
   ·grind
   ·exact Y41 (ih (by omega) (by omega)) hs
theorem runs {d : Db} (h : ValidDb d) : Runs (sameD d) d.2.length := by
 refine ⟨fun i => by simp [sameD, sameK], fun i k hs => ?_, fun i j k h1 h2 => ?_, fun i j k hij hjk hk hs => ?_⟩
 ·simp [sameD, sameK] at hs ⊢;exact ⟨hs.1.symm, hs.2.symm⟩
 ·simp [sameD, sameK] at h1 h2 ⊢;exact ⟨h1.1.trans h2.1, h1.2.trans h2.2⟩
 ·by_cases e1 : i = j
  ·subst e1; simp [sameD, sameK]
  ·by_cases e2 : j = k
   ·grind
   ·have l1 := h.lt i j (by omega) (by omega);have l2 := h.lt j k (by omega) hk;have g1 := Yn h.rels (h.fact i (by omega));have g2 := Yn h.rels (h.fact j (by omega));have g3 := Yn h.rels (h.fact k hk);simp [sameD, sameK] at hs ⊢;obtain ⟨s1, s2⟩ := hs;generalize factAt d i = a at *;generalize factAt d j = b at *;generalize factAt d k = c at *;have hab : a.1 = b.1 := by
     unfold cmpFacts at l1 l2;by_cases q1 : a.1 < b.1
     ·grind
     ·grind
    have hbc : b.1 = c.1 := by omega
    have c1 : cmpInts a.2 b.2 < 0 := by unfold cmpFacts at l1; rw [Jj (by omega), Jj (by omega)] at l1; exact l1
    have c2 : cmpInts b.2 c.2 < 0 := by unfold cmpFacts at l2; rw [Jj (by omega), Jj (by omega)] at l2; exact l2
    have k1 : keyLen d.1 a = keyLen d.1 b := by unfold keyLen; rw [hab]
    have k2 : keyLen d.1 b = keyLen d.1 c := by unfold keyLen; rw [hbc]
    have n1 := g1.len;have n2 := g2.len;have n3 := g3.len;rw [hab] at n1;rw [hbc] at n1 n2;unfold keyOf at s2 ⊢;rw [<- k2, <- k1] at s2;rw [<- k1];exact ⟨hab, Z0ch _ _ _ _ c1 c2 s2 (by omega) (by omega)⟩
abbrev Ctx := List Int × Int × Int
structure COk (c : Ctx) : Prop where
 len : c.1.length <= 1048576
 lo : 0 <= c.2.1
 hi : c.2.1 <= c.1.length
def Dr {α : Type} (c : Ctx) (o : Option (Ctx × α)) (Q : α -> Prop) : Prop := ∃ (p : Int × Int) (x : α), o = some ((c.1, p), x) /\ COk (c.1, p) /\ Q x
theorem Dr.bind {α β : Type} {c : Ctx} {o : Option (Ctx × α)} {Q : α -> Prop} {k : Ctx × α -> Option (Ctx × β)} {Q' : β -> Prop} (h : Dr c o Q) (hk : ∀ p x, COk (c.1, p) -> Q x -> Dr (c.1, p) (k ((c.1, p), x)) Q') : Dr c (o.bind k) Q' := by
 obtain ⟨p, x, h1, h2, h3⟩ := h;rw [h1, J0];exact hk p x h2 h3
def toI (l : List Nat) : List Int := l.map fun (n : Nat) => (n : Int)
theorem Y1c (l : List Nat) : (toI l).length = l.length := by simp [toI]
theorem Y1t (a b : List Nat) : toI (a ++ b) = toI a ++ toI b := by simp [toI]
theorem Y3n (S : Nat -> Nat -> Bool) (n s : Nat) : (blk S n s).length <= n := by
 exact Jq (Jo _ _) (Nat.le_of_eq Jr)
theorem Y3o (S : Nat -> Nat -> Bool) (n : Nat) : (sts S n).length <= n := by
 exact Jq (Jo _ _) (Nat.le_of_eq Jr)
theorem Y9c (S : Nat -> Nat -> Bool) (n : Nat) : (B S n).length <= n := by
 unfold B; rw [Jb]; exact Y3o S n
theorem Yw {d : Db} {k : Nat} (hk : k < d.2.length) : at_ (0, []) d.2 (k : Int) = factAt d k := by unfold factAt; rw [Y2 hk, Y3 hk]
theorem Yh {d : Db} (h : SmallDb d) {k : Nat} (hk : k < d.2.length) : (factAt d k).2.length <= 1048576 := by unfold factAt; rw [Y3 hk]; exact h.vals _ (J5 hk)
theorem Y68 {d : Db} (h : SmallDb d) (hvb : validDb d = true) (hN : 1048576 < N) {i : Nat} (hi : i < d.2.length) : Z7x N d (i : Int) = some (toI (blk (sameD d) d.2.length i)) := by
 have hv := Y7 hvb;have hf := hv.few;have := loop (fun k (s : List Int × Nat) => Z5j N k (i : Int) d.1 d.2 s.1 (s.2 : Int)) (fun s => s.2 <= d.2.length /\ s.1 = toI (blk (sameD d) s.2 i)) (fun s => d.2.length - s.2) (fun o => o = some (toI (blk (sameD d) d.2.length i))) (fun k s hs => by
  obtain ⟨out, j⟩ := s;obtain ⟨h1, h2⟩ := hs;simp only at h1 h2 ⊢;by_cases hj : j < d.2.length
  ·right;have e1 : (j : Int) < (d.2.length : Int) := by omega
   have e2 : (0 : Int) <= (i : Int) /\ (i : Int) <= (d.2.length : Int) - 1 := by omega
   have e3 : validDb (d.1, d.2) = true := hvb;have hlen : out.length <= 14 := by rw [h2, Y1c]; have := Y3n (sameD d) j i; omega
   refine ⟨(toI (blk (sameD d) (j + 1) i), j + 1), ⟨hj, rfl⟩, by simp only; omega, ?_⟩;simp only [zS, Z5j, Z7t, e1, Y16 (d := (d.1, d.2)) h hN, e3, l1In, Y5 (show -9223372036854775808 <= (d.2.length : Int) - 1 by omega) (by omega), e2, and_self, Y0 hi, Y0 hj, Yw hi, Yw hj, Y8m h.rels (Yh h hi) (Yh h hj) hN hv.rels (hv.fact i hi) (hv.fact j hj), Y1 (j := j)];rw [Y1f];cases hs : sameD d i j with
   | true =>
    have hs' : sameK d.1 (factAt d i) (factAt d j) = true := hs;rw [hs', J7, Y4, grd_true, Jf rfl, Y1t, h2]; rfl
   | false =>
    have hs' : sameK d.1 (factAt d i) (factAt d j) = false := hs;rw [hs', J3, Jj (by simp), Jl, h2]
  ·left;have : j = d.2.length := by omega
   subst this;have e1 : ¬ (d.2.length : Int) < (d.2.length : Int) := by omega
   simp [Z5j, Z7t, e1, J3, h2]) N ([], 0) (by simp only; omega) ⟨by simp, by simp [blk, toI]⟩
 exact this
def blocksOf (d : Db) : List (List Int) := if validDb d then (B (sameD d) d.2.length).map toI else []
theorem Yi {d : Db} (h : SmallDb d) (hN : 1048576 < N) : Z1f N d = some (blocksOf d) := by
 have hfs := h.facts;unfold Z1f Z0a1 blocksOf;cases hvb : validDb d with
 | false =>
  simp;obtain ⟨n, rfl⟩ : ∃ n, N = n + 1 := ⟨N - 1, by omega⟩;simp only [zS, Z4t, Z6l, Y16 (d := (d.1, d.2)) h hN, show validDb (d.1, d.2) = false from hvb];cases decide ((0 : Int) < (d.2.length : Int)) <;> rfl
 | true =>
  simp;have hv := Y7 hvb;have hf := hv.few;have hR := runs hv;have := loop (fun k (s : List (List Int) × Nat) => Z4t N k d.1 d.2 s.1 (s.2 : Int)) (fun s => s.2 <= d.2.length /\ s.1 = (((sts (sameD d) s.2).map (blk (sameD d) d.2.length)).map toI)) (fun s => d.2.length - s.2) (fun o => o = some ((B (sameD d) d.2.length).map toI)) (fun k s hs => by
   obtain ⟨out, j⟩ := s;obtain ⟨h1, h2⟩ := hs;simp only at h1 h2 ⊢;by_cases hj : j < d.2.length
   ·right;have e1 : (j : Int) < (d.2.length : Int) := by omega
    have e3 : validDb (d.1, d.2) = true := hvb;have hlen : out.length <= 14 := by rw [h2, Jb, Jb]; have := Y3o (sameD d) j; omega
    obtain ⟨q, r, b1, b2, b3⟩ := Y36 (hR.refl j) hj;have e4 : toI (blk (sameD d) d.2.length j) = (q : Int) :: toI r := by rw [b1]; rfl
    have e5 : inb 0 (toI (blk (sameD d) d.2.length j)) = true := by rw [e4]; exact Y0 (j := 0) (by simp)
    have e6 : at_ 0 (toI (blk (sameD d) d.2.length j)) 0 = (q : Int) := by rw [e4]; exact Y2 (j := 0) (by simp)
    refine ⟨((((sts (sameD d) (j + 1)).map (blk (sameD d) d.2.length)).map toI), j + 1), ⟨hj, rfl⟩, by simp only; omega, ?_⟩;simp only [zS, Z4t, Z6l, e1, Y16 (d := (d.1, d.2)) h hN, e3, Y68 (d := (d.1, d.2)) h hvb hN (show j < (d.1, d.2).2.length from hj), Y1 (j := j)];rw [show sameD (d.1, d.2) = sameD d from rfl, e5, grd_true, e6, beqI, Ym];by_cases hst : isSt (sameD d) j = true
    ·have hq := b3.2 hst;rw [Jf hst, J1 (by rw [hq]), J7, Y4, grd_true, Jg, Jg, <- h2]; rfl
    ·grind
   ·left;have : j = d.2.length := by omega
    subst this;have e1 : ¬ (d.2.length : Int) < (d.2.length : Int) := by omega
    simp only [zS, Z4t, Z6l, e1, h2];rfl) N ([], 0) (by simp only; omega) ⟨by simp, by simp [sts]⟩
  exact this
theorem Y42 {d : Db} (h : SmallDb d) (hvb : validDb d = true) (hN : 1048576 < N) : Z6c N d = some (blocksOf d) := by
 unfold blocksOf;rw [Jf hvb]
 ·have hv := Y7 hvb;have hf := hv.few;have hR := runs hv;have := loop (fun k (s : List (List Int) × Nat) => Z41 N k d.1 d.2 s.1 d.2 (d.2.length : Int) (s.2 : Int)) (fun s => s.2 <= d.2.length /\ s.1 = (B (sameD d) s.2).map toI) (fun s => d.2.length - s.2) (fun o => o = some ((B (sameD d) d.2.length).map toI)) (fun k s hs => by
   obtain ⟨out, j⟩ := s;obtain ⟨h1, h2⟩ := hs;simp only at h1 h2 ⊢;by_cases hj : j < d.2.length
   ·right;have e1 : (j : Int) < (d.2.length : Int) := by omega
    have hlen : out.length <= 14 := by rw [h2, Jb]; have := Y9c (sameD d) j; omega
    refine ⟨((B (sameD d) (j + 1)).map toI, j + 1), ⟨hj, rfl⟩, by simp only; omega, ?_⟩;simp only [zS, Z41, Z8b, e1, Y0 hj, Y1 (j := j)];rw [Y5 (show -9223372036854775808 <= (out.length : Int) - 1 by omega) (by omega)];have new : isSt (sameD d) j = true -> grd (appOk out [[(j : Int)]] 24) (Z41 N k d.1 d.2 (out ++ [[(j : Int)]]) d.2 (d.2.length : Int) ((j + 1 : Nat) : Int)) = Z41 N k d.1 d.2 ((B (sameD d) (j + 1)).map toI) d.2 (d.2.length : Int) ((j + 1 : Nat) : Int) := fun hst => by
     rw [Y4, grd_true, Y6x hR hst, Jg, <- h2]; rfl
    by_cases h0 : j = 0
    ·subst h0;have ho : out = [] := by rw [h2]; rfl
     have hn : ¬ (out.length : Int) - 1 >= 0 := by rw [ho]; simp
     rw [J4 hn, J3];exact new (Y6.2 (fun k hk => by omega))
    ·obtain ⟨A, t, a1, a2, a3, a4⟩ := Y1b hR j (by omega) (by omega);obtain ⟨q, r, b1, b2, b3⟩ := Y36 (hR.refl t) a2;have hq : q = t := b3.2 a3;subst hq;have hout : out = ((A.map (blk (sameD d) j)).map toI) ++ [toI (blk (sameD d) j q)] := by
      rw [h2]; unfold B; rw [a1, Jg, Jg]; rfl
     generalize hX : (A.map (blk (sameD d) j)).map toI = X at hout;have hl : (out.length : Int) - 1 = (X.length : Int) := by grind
     have hXl : X.length < out.length := by grind
     have hat : at_ [] out (X.length : Int) = toI (blk (sameD d) j q) := by
      rw [Y2 hXl];simp only [hout];rw [List.getElem_append_right (by omega)];simp
     have e4 : toI (blk (sameD d) j q) = (q : Int) :: toI r := by rw [b1]; rfl
     have e5 : inb 0 (toI (blk (sameD d) j q)) = true := by rw [e4]; exact Y0 (j := 0) (by simp)
     have e6 : at_ 0 (toI (blk (sameD d) j q)) 0 = (q : Int) := by rw [e4]; exact Y2 (j := 0) (by simp)
     have hql : q < d.2.length := by omega
     rw [hl, J1 (show (X.length : Int) >= 0 by omega), J7, Y0 hXl, grd_true, hat, e5, grd_true, e6, Y0 hql, grd_true, Yw hql, Yw hj,
      Y8n (Yh h hql) (Yh h hj) hN hv.rels (hv.fact q hql) (hv.fact j hj), J0]
     cases hs : sameD d q j with
     | true =>
      have hs' : sameK d.1 (factAt d q) (factAt d j) = true := hs;have hns : ¬ isSt (sameD d) j = true := fun hc => by
       have := Y6.1 hc q a2;rw [hR.symm _ _ hs] at this; simp at this
      have hbl := Y3n (sameD d) j q;have hgrow : growOk (X.length : Int) (X.length : Int) out = true := by unfold growOk; rw [J1 rfl, J1 (show (0 : Int) <= X.length by omega), J1 (show (X.length : Int) < (out.length : Int) by omega)]; rfl
      rw [hs', J7, grd_true, grd_true, Y4 (by omega) (by rw [Y1c]; simp; omega), grd_true, grd_true, hgrow, grd_true, letv_eq];congr 1;rw [Y6y hR hns hj a1 hs, Jg, hX, hout, Jn, J29 _ _ (by omega), Nat.sub_self];simp [toI]
     | false =>
      have hs' : sameK d.1 (factAt d q) (factAt d j) = false := hs;rw [hs', J3];refine new (Y6.2 (fun k hk => ?_));rw [J1i];intro hc;have c1 := hR.symm _ _ hc;have c2 := hR.run k (j - 1) j (by omega) (by omega) (by omega) c1;have c3 := hR.trans _ _ _ (hR.symm _ _ c2) c1;have c4 := hR.trans _ _ _ (a4 (j - 1) (by omega) (by omega)) c3;rw [hs] at c4; simp at c4
   ·left;have : j = d.2.length := by omega
    subst this;have e1 : ¬ (d.2.length : Int) < (d.2.length : Int) := by omega
    simp [Z41, Z8b, e1, J3, h2]) N ([], 0) (by simp only; have := h.facts; omega) ⟨by simp, by simp [B, sts]⟩
  exact this
def sizes (d : Db) : List Nat := (blocksOf d).map List.length
theorem Y55 : ∀ (a : List Nat) (j : Nat), (a.take j).sum <= a.sum
 | [], j => by simp
 | x :: a, 0 => by simp
 | x :: a, j + 1 => by have := Y55 a j; simp; omega
theorem Yx {d : Db} (hvb : validDb d = true) : (sizes d).sum = d.2.length /\ (∀ x ∈ sizes d, 1 <= x) /\ (sizes d).length <= 14 /\ (blocksOf d).length = (sizes d).length := by
 have hv := Y7 hvb;have hR := runs hv;have e : sizes d = (B (sameD d) d.2.length).map List.length := by
  unfold sizes blocksOf;rw [Jf hvb, List.map_map];apply J1o;intro x _;exact Y1c x
 refine ⟨by rw [e]; exact Y37 hR _ (Jx _), ?_, ?_, by unfold sizes; simp⟩
 ·rw [e];intro x hx;obtain ⟨b, hb, rfl⟩ := J9.1 hx;unfold B at hb;obtain ⟨s, hs, rfl⟩ := J9.1 hb;obtain ⟨q, r, b1, _⟩ := Y36 (hR.refl s) (Y1o.1 hs).1;rw [b1]; simp
 ·rw [e, Jb];have := Y9c (sameD d) d.2.length;have := hv.few;omega
theorem Y43 : ∀ {a : List Nat} {x : Nat}, x ∈ a -> x <= a.sum
 | y :: a, x, h => by
  rw [J1r];rcases Js.1 h with rfl | h
  ·omega
  ·have := Y43 h; omega
theorem Y7k {d : Db} (h : SmallDb d) (hN : 1048576 < N) : Z4d N d = some (toI (sizes d)) := by
 unfold Z4d Z97;rw [Yi h hN, J0];have hl : (blocksOf d).length <= 14 := by
  cases hvb : validDb d with
  | true => have := Yx hvb; omega
  | false => unfold blocksOf; rw [hvb]; simp
 have := loop (fun k (s : List Int × Nat) => Z3x N k s.1 (blocksOf d) (s.2 : Int)) (fun s => s.2 <= (blocksOf d).length /\ s.1 = toI ((sizes d).take s.2)) (fun s => (blocksOf d).length - s.2) (fun o => o = some (toI (sizes d))) (fun k s hs => by
  obtain ⟨out, j⟩ := s;obtain ⟨h1, h2⟩ := hs;simp only at h1 h2 ⊢;have hsl : (sizes d).length = (blocksOf d).length := by unfold sizes; simp
  by_cases hj : j < (blocksOf d).length
  ·right;have e1 : (j : Int) < ((blocksOf d).length : Int) := by omega
   have hlen : out.length <= 14 := by rw [h2, Y1c, Jt]; omega
   refine ⟨(toI ((sizes d).take (j + 1)), j + 1), ⟨hj, rfl⟩, by simp only; omega, ?_⟩;simp only [zS, Z3x, Z65, e1, Y0 hj, Y2 hj, Y1 (j := j)];rw [Y4, grd_true, J6 (by omega), Y1t, <- h2];simp [toI, sizes]
  ·left;have : j = (blocksOf d).length := by omega
   subst this;simp [Z3x, Z65, J3, h2];rw [<- hsl, J12]) N ([], 0) (by simp only; omega) ⟨by simp, by simp [toI]⟩
 exact this
def repR : List (List Int) -> Nat -> List Int
 | [], _ => []
 | b :: M, r => b.getD (r % b.length) 0 :: repR M (r / b.length)
def prodL : List (List Int) -> Nat
 | [] => 1
 | b :: M => b.length * prodL M
def repOf (L : List (List Int)) (r : Nat) : List Int := (repR L.reverse r).reverse
theorem Y7l {L : List (List Int)} {r : Nat} (hl : L.length <= 1000) (hne : ∀ b ∈ L, b ≠ []) (hb : ∀ b ∈ L, b.length <= 1000) (hr : r <= 1000000000) (hN : 1048576 < N) : Z4x N L (r : Int) = some (repOf L r) := by
 unfold Z4x Z9j;rw [Y15 (by omega), grd_true, Y5, Jn];have := loop (fun k (s : Nat × List Int × Nat) => Z4o N k L (s.1 : Int) s.2.1 ((s.2.2 : Int) - 1)) (fun s => s.1 <= 1000000000 /\ s.2.2 <= L.length /\ ∃ R, s.2.1 = List.replicate s.2.2 0 ++ R /\ (repR (L.take s.2.2).reverse s.1).reverse ++ R = repOf L r) (fun s => s.2.2) (fun o => o = some (repOf L r)) (fun k s hs => by
  obtain ⟨rk, out, j⟩ := s;obtain ⟨h0, h1, R, h2, h3⟩ := hs;simp only at h0 h1 h2 h3 ⊢;cases j with
  | zero =>
   left;have e : ¬ (((0 : Nat) : Int) - 1 >= 0) := by omega
   simp only [Z4o, Z6w, J4 e, J3];rw [<- h3, h2]; simp [repR]
  | succ j =>
   right;have hj : j < L.length := by omega
   have ei : ((j + 1 : Nat) : Int) - 1 = (j : Int) := by omega
   have hbl : 0 < (L[j]).length := Ju.2 (hne _ (J5 hj));have hbh := hb _ (J5 hj);have hm : rk % (L[j]).length < (L[j]).length := J22 _ hbl;have em : (rk : Int).tmod ((L[j]).length : Int) = ((rk % (L[j]).length : Nat) : Int) := by grind
   have ed : (rk : Int).tdiv ((L[j]).length : Int) = ((rk / (L[j]).length : Nat) : Int) := by grind
   have hdl : rk / (L[j]).length <= rk := Nat.div_le_self _ _;have ho : j < out.length := by grind
   have hz : ((L[j]).length : Int) ≠ 0 := by omega
   refine ⟨(rk / (L[j]).length, List.replicate j 0 ++ ((L[j])[rk % (L[j]).length] :: R), j), ⟨by simp only; omega, by simp only; omega, _, rfl, ?_⟩, by simp only; omega, ?_⟩
   ·rw [<- h3, J6 hj, List.reverse_append, List.reverse_singleton, J1v];simp only [repR, J24, J16, J1v];rw [List.getD_eq_getElem?_getD, Jh hm]; rfl
   ·simp only [zS, Z4o, Z6w, ei, show (j : Int) >= 0 by omega, Y0 hj, Y2 hj, Y14 hz, em, ed, Y0 hm, Y0 ho, Y2 hm, letv_eq, Jn];rw [Y5 (x := ((rk / (L[j]).length : Nat) : Int)) (Int.le_trans (by decide) (Int.natCast_nonneg _)) (Int.le_trans (Int.ofNat_le.2 (Jq hdl h0)) (by decide)), Y5 (x := (j : Int) - 1)];congr 1;rw [h2, List.replicate_succ', J16, J29 _ _ (by simp)];simp) N (r, List.replicate L.length 0, L.length) (by simp only; omega) ⟨hr, Jx _, [], by simp, by simp [repOf]⟩
 exact this
theorem Y7m : ∀ x : Nat, x <= 2 ^ x
 | 0 => by simp
 | x + 1 => by have := Y7m x; rw [J21]; have : 1 <= 2 ^ x := Nat.one_le_two_pow; omega
theorem Y56 : ∀ M : List (List Int), prodL M <= 2 ^ ((M.map List.length).sum)
 | [] => by simp [prodL]
 | b :: M => by
  have := Y56 M;simp only [prodL, Jy, J1r, Nat.pow_add];exact Nat.mul_le_mul (Y7m _) this
theorem Y2b : ∀ A B : List (List Int), prodL (A ++ B) = prodL A * prodL B
 | [], B => by simp [prodL]
 | b :: A, B => by simp only [J1m, prodL, Y2b A B, Nat.mul_assoc]
theorem Y57 {L : List (List Int)} (hl : L.length <= 1000) (hs : (L.map List.length).sum <= 20) (hN : 1048576 < N) : Z4n N L = some (prodL L : Int) := by
 have := loop (fun k (s : Nat × Nat) => Z38 N k (s.1 : Int) L (L.length : Int) (s.2 : Int)) (fun s => s.2 <= L.length /\ s.1 = prodL (L.take s.2)) (fun s => L.length - s.2) (fun o => o = some (prodL L : Int)) (fun k s hh => by
  obtain ⟨n, j⟩ := s;obtain ⟨h1, h2⟩ := hh;simp only at h1 h2 ⊢;by_cases hj : j < L.length
  ·right;have e1 : (j : Int) < (L.length : Int) := by omega
   have e2 : prodL (L.take (j + 1)) = n * (L[j]).length := by
    rw [J6 hj, Y2b, <- h2]; simp [prodL]
   have e3 : prodL (L.take (j + 1)) <= 1048576 := by
    have a1 := Y56 (L.take (j + 1));have a2 : ((L.take (j + 1)).map List.length).sum <= 20 := by
     rw [List.map_take]; exact Jq (Y55 _ _) hs
    have a3 : 2 ^ ((L.take (j + 1)).map List.length).sum <= 2 ^ 20 := J13 (by omega) a2;omega
   refine ⟨(prodL (L.take (j + 1)), j + 1), ⟨hj, rfl⟩, by simp only; omega, ?_⟩;simp only [zS, Z38, Z54, e1, Y0 hj, Y2 hj, Y1 (j := j)];have e4 : (n : Int) * ((L[j]).length : Int) = ((prodL (L.take (j + 1)) : Nat) : Int) := by rw [e2]; simp
   rw [e4, Y5]
  ·left;have : j = L.length := by omega
   subst this;simp [Z38, Z54, J3, h2]) N (1, 0) (by simp only; omega) ⟨by simp, by simp [prodL]⟩
 exact this
def one (p : Int -> Bool) (x : Int) : Int := if p x then 1 else 0
theorem Y2c {d : Db} (hvb : validDb d = true) : ∀ b ∈ blocksOf d, b ≠ [] /\ b.length <= 14 := by
 intro b hb;obtain ⟨s1, s2, s3, s4⟩ := Yx hvb;have hm : b.length ∈ sizes d := J9.2 ⟨_, hb, rfl⟩;have h1 := s2 _ hm;have h2 := Y43 hm;have hf := (Y7 hvb).few;exact ⟨fun h => by rw [h] at h1; simp at h1, by omega⟩
theorem Y3p {d : Db} (hvb : validDb d = true) : ∀ b ∈ blocksOf d, ∀ x ∈ b, 0 <= x /\ x < (d.2.length : Int) := by
 intro b hb x hx;unfold blocksOf at hb;rw [Jf hvb] at hb;obtain ⟨b', hb', rfl⟩ := J9.1 hb;obtain ⟨s, hs, rfl⟩ := J9.1 hb';obtain ⟨k, hk, rfl⟩ := J9.1 hx;have := Ji.1 (Jm.1 hk).1;omega
def in_int (x : Int) : Prop := IntKind.min .i64 <= x /\ x <= IntKind.max .i64
def in_str (x : ByteArray) : Prop := x.size <= 9223372036854775807
def s_str (x : ByteArray) : Nat := x.size
def b_str (x : ByteArray) : Prop := x.size <= 1048576
theorem Y8o {x : ByteArray} (h : s_str x <= 1048576) : b_str x := h
theorem bneB (a b : Bool) : (a != b) = !decide (a = b) := by cases a <;> cases b <;> rfl
theorem beqB (a b : Bool) : (a == b) = decide (a = b) := by cases a <;> cases b <;> rfl
theorem Yq {α : Type} [DecidableEq α] {a b : List α} (h : a.length = b.length) : (a = b) ↔ ∀ j, j < a.length -> (decide (a[j]? = b[j]?)) = true := by
 constructor
 ·rintro rfl j _; simp
 ·intro h2;apply List.ext_getElem?;intro j;by_cases hj : j < a.length
  ·simpa using h2 j hj
  ·rw [List.getElem?_eq_none (by omega), List.getElem?_eq_none (by omega)]
def sub1 (l : Int) (s : Nat) : Int := if (s : Int) <= l then l - s else -1
theorem Yd {l : Int} {s : Nat} (h : (s : Int) <= l) : sub1 l s = l - s := Jf h
theorem Y8 {l : Int} {s : Nat} (h : ¬ (s : Int) <= l) : sub1 l s = -1 := Jj h
def sumL {α : Type} (s : α -> Nat) (a : List α) : Nat := a.length + (a.map s).sum
theorem Y38 {α : Type} {s : α -> Nat} {a : List α} {m : Nat} (h : sumL s a <= m) : a.length <= m := Jq (Nat.le_add_right _ _) h
theorem Y6j {α : Type} {s : α -> Nat} : ∀ {a : List α} {y : α}, y ∈ a -> s y <= (a.map s).sum
 | [], y, h => by simp at h
 | x :: a, y, h => by
  rcases Js.1 h with rfl | h
  ·simp
  ·have := Y6j (s := s) h;simp only [Jy, J1r]; omega
theorem Y39 {α : Type} {s : α -> Nat} {a : List α} {y : α} (h : y ∈ a) : s y <= sumL s a := Jq (Y6j h) (Nat.le_add_left _ _)
theorem szL {α : Type} {a : List α} {s : α -> Nat} {g : α -> Int -> Option Int} {f : Nat -> Int -> Int -> Option Int} (hg : ∀ x ∈ a, ∀ l : Int, 0 <= l -> l <= 1048576 -> g x l = some (sub1 l (s x)))
  (hend : ∀ k l, f (k + 1) l (a.length : Int) = some l) (hstep : ∀ k l j (h : j < a.length), f (k + 1) l (j : Int) = (g a[j] l).bind fun r => bif decide (r < 0) then some (-1) else f k r ((j + 1 : Nat) : Int))
  {k : Nat} (hk : a.length < k) {l : Int} (h0 : 0 <= l) (h1 : l <= 1048576) : f k l 0 = some (sub1 l ((a.map s).sum)) := by
 have := loop (fun k (q : Int × Nat) => f k q.1 (q.2 : Int)) (fun q => 0 <= q.1 /\ q.1 <= 1048576 /\ q.2 <= a.length /\ sub1 q.1 (((a.drop q.2).map s).sum) = sub1 l ((a.map s).sum)) (fun q => a.length - q.2) (fun o => o = some (sub1 l ((a.map s).sum))) (fun k q hs => by
  obtain ⟨v, j⟩ := q;obtain ⟨g0, g1, g2, g3⟩ := hs;simp only at g0 g1 g2 g3 ⊢;by_cases hj : j < a.length
  ·rw [hstep k v j hj, hg a[j] (J5 hj) v g0 g1, J0];rw [J8 hj, Jy, J1r] at g3;by_cases hc : (s a[j] : Int) <= v
   ·right;refine ⟨(v - s a[j], j + 1), ⟨by simp only; omega, by simp only; omega, hj, ?_⟩, by simp only; omega, ?_⟩
    ·rw [<- g3]; simp only [sub1]; split <;> split <;> omega
    ·rw [Yd hc, J4 (by omega), J3]
   ·left;rw [Y8 hc, J1 (by omega), J7];rw [<- g3, Y8 (by omega)]
  ·left;have : j = a.length := by omega
   subst this;rw [hend];rw [J1n] at g3;rw [<- g3]; simp [sub1, g0]) k (l, 0) (by simpa using hk) ⟨h0, h1, by simp, by simp⟩
 exact this
theorem Y6k {x : Int} (h : 0 <= x) : decide (x < 0) = false := J4 (by omega)
abbrev T_IntS := List Int
def in_IntS (a : T_IntS) : Prop := a.length <= 9223372036854775807 /\ ∀ y ∈ a, in_int y
def s_IntS (a : T_IntS) : Nat := a.length
def b_IntS (a : T_IntS) : Prop := a.length <= 1048576
theorem Y2d {a : T_IntS} (h : s_IntS a <= 1048576) : b_IntS a := h
theorem Y1u {a : T_IntS} (h : b_IntS a) (hN : 1048576 < N) : Z1p N a = some a := by
 have hl : a.length <= 1048576 := h;unfold Z1p Z9z;rw [Y15 (by omega), grd_true];refine fill (b := a) (fun k out i => Z6d N k a out i) (fun k out => by simp [Z6d, Z87]) (fun k out j h1 h3 => ?_) (by omega) (by simp);have h2 : j < out.length := by omega
 have hj : (j : Int) < (a.length : Int) := by omega
 simp [Z6d, Z87, hj, Y0 h1, Y0 h2, Y2 h1, Y1 (j := j)]
theorem Y1v {a b : T_IntS} (h : b_IntS a) (hN : 1048576 < N) : Z2n N a b = some (decide (a = b)) := by
 have hla : a.length <= 1048576 := h;unfold Z2n Z0a9;by_cases hl : a.length = b.length
 ·have h0 : ((a.length : Int) != (b.length : Int)) = false := by simp [hl]
  rw [h0, J3, decide_eq_decide.2 (Yq hl)];refine Y3k (n := a.length) (fun j => decide (a[j]? = b[j]?)) (fun k i => Z6e N k a b i) (fun k => by simp [Z6e, Z8c]) (fun k j hj => ?_) (by omega);have h1 : (j : Int) < (a.length : Int) := by omega
  have h2 : j < b.length := by omega
  simp only [zS, Z6e, Z8c, h1, Y0 hj, Y0 h2, Y2 hj, Y2 h2, bneI, Y1e, Y1 (j := j), Jh hj, Jh h2, J15]
 ·have h0 : ((a.length : Int) != (b.length : Int)) = true := by simp; omega
  rw [h0, J7];have : a ≠ b := fun h => hl (by rw [h]);simp [this]
theorem Y3a {a : T_IntS} {l : Int} (h : in_IntS a) (h0 : 0 <= l) (h1 : l <= 1048576) (hN : 1048576 < N) : Z3l N a l = some (sub1 l (s_IntS a)) := by
 have := h.1;unfold Z3l s_IntS sub1;rw [Y5];by_cases h : (a.length : Int) <= l
 ·rw [Jf h, J4 (by omega)]; rfl
 ·rw [Jj h, J1 (by omega)]; rfl
abbrev T_Relation := ByteArray × Int × Int
def in_Relation (x : T_Relation) : Prop := in_str x.1 /\ in_int x.2.1 /\ in_int x.2.2
def s_Relation (x : T_Relation) : Nat := s_str x.1
def b_Relation (x : T_Relation) : Prop := b_str x.1
theorem Y4t {x : T_Relation} (h : s_Relation x <= 1048576) : b_Relation x := Y8o (by unfold s_Relation at h; omega)
theorem Y58 {x : T_Relation} (h : b_Relation x) (hN : 1048576 < N) : Z4a N x = some x := by
 simp [Z4a]
theorem Y59 {x y : T_Relation} (h : b_Relation x) (hN : 1048576 < N) : Z4h N x y = some (decide (x = y)) := by
 simp only [Z4h, bneI, bneB, beqB, Y29, J0];obtain ⟨x0, x1, x2⟩ := x;obtain ⟨y0, y1, y2⟩ := y;simp only [J1y];by_cases e0 : x0 = y0 <;>
 by_cases e1 : x1 = y1 <;>
 by_cases e2 : x2 = y2 <;> simp [e0, e1, e2]
theorem Y5a {x : T_Relation} {l : Int} (h : in_Relation x) (h0 : 0 <= l) (h1 : l <= 1048576) (hN : 1048576 < N) : Z3e N x l = some (sub1 l (s_Relation x)) := by
 have : x.1.size <= 9223372036854775807 := h.1;unfold Z3e s_Relation s_str sub1;rw [Y5];by_cases h : (x.1.size : Int) <= l
 ·rw [Jf h, J4 (by omega)]; rfl
 ·rw [Jj h, J1 (by omega)]; rfl
abbrev T_RelationS := List T_Relation
def in_RelationS (a : T_RelationS) : Prop := a.length <= 9223372036854775807 /\ ∀ y ∈ a, in_Relation y
def s_RelationS (a : T_RelationS) : Nat := sumL s_Relation a
def b_RelationS (a : T_RelationS) : Prop := a.length <= 1048576 /\ ∀ y ∈ a, b_Relation y
theorem Y44 {a : T_RelationS} (h : s_RelationS a <= 1048576) : b_RelationS a := ⟨(Y38 h), fun y hy => Y4t (Jq (Y39 hy) h)⟩
theorem Y4u {a : T_RelationS} (h : b_RelationS a) (hN : 1048576 < N) : Z3s N a = some a := by
 have hl : a.length <= 1048576 := h.1;unfold Z3s Z8u;rw [Y15 (by omega), grd_true];refine fill (b := a) (fun k out i => Z3h N k a out i) (fun k out => by simp [Z3h, Z5f]) (fun k out j h1 h3 => ?_) (by omega) (by simp);have h2 : j < out.length := by omega
 have hj : (j : Int) < (a.length : Int) := by omega
 simp [Z3h, Z5f, hj, Y0 h1, Y0 h2, Y2 h1, Y58 (h.2 _ (J5 h1)) hN, Y1 (j := j)]
theorem Y4v {a b : T_RelationS} (h : b_RelationS a) (hN : 1048576 < N) : Z3u N a b = some (decide (a = b)) := by
 have hla : a.length <= 1048576 := h.1;unfold Z3u Z91;by_cases hl : a.length = b.length
 ·have h0 : ((a.length : Int) != (b.length : Int)) = false := by simp [hl]
  rw [h0, J3, decide_eq_decide.2 (Yq hl)];refine Y3k (n := a.length) (fun j => decide (a[j]? = b[j]?)) (fun k i => Z3k N k a b i) (fun k => by simp [Z3k, Z5n]) (fun k j hj => ?_) (by omega);have h1 : (j : Int) < (a.length : Int) := by omega
  have h2 : j < b.length := by omega
  simp only [zS, Z3k, Z5n, h1, Y0 hj, Y0 h2, Y2 hj, Y2 h2, Y59 (h.2 _ (J5 hj)) hN, Y1e, Y1 (j := j), Jh hj, Jh h2, J15]
 ·have h0 : ((a.length : Int) != (b.length : Int)) = true := by simp; omega
  rw [h0, J7];have : a ≠ b := fun h => hl (by rw [h]);simp [this]
theorem Y4w {a : T_RelationS} {l : Int} (h : in_RelationS a) (h0 : 0 <= l) (h1 : l <= 1048576) (hN : 1048576 < N) : Z3r N a l = some (sub1 l (s_RelationS a)) := by
 have hlen := h.1;unfold Z3r Z8t;rw [Y5];by_cases hc : (a.length : Int) <= l
 ·rw [J4 (by omega), J3];rw [szL (a := a) (s := s_Relation) (g := fun x l => Z3e N x l) (f := fun k l i => Z3g N k a l i) (fun x hx l h0 h1 => Y5a (h.2 x hx) h0 h1 hN) (fun k l => by simp [Z3g, Z5c]) (fun k l j hj => by
    have h2 : (j : Int) < (a.length : Int) := by omega
    simp only [zS, Z3g, Z5c, h2, Y0 hj, Y2 hj, Y1 (j := j)]) (by omega) (by omega) (by omega)]
  unfold s_RelationS sumL sub1;congr 1;split <;> split <;> omega
 ·rw [J1 (by omega), J7];unfold s_RelationS sumL sub1;rw [Jj (by omega)]
abbrev T_Fact := Int × List Int
def in_Fact (x : T_Fact) : Prop := in_int x.1 /\ in_IntS x.2
def s_Fact (x : T_Fact) : Nat := s_IntS x.2
def b_Fact (x : T_Fact) : Prop := b_IntS x.2
theorem Y7n {x : T_Fact} (h : s_Fact x <= 1048576) : b_Fact x := Y2d (by unfold s_Fact at h; omega)
theorem Y8p {x : T_Fact} (h : b_Fact x) (hN : 1048576 < N) : Z7c N x = some x := by
 simp [Z7c, Y1u h hN]
theorem Y8q {x y : T_Fact} (h : b_Fact x) (hN : 1048576 < N) : Z7n N x y = some (decide (x = y)) := by
 simp only [Z7n, bneI, bneB, beqB, Y29, Y1v h hN, J0];obtain ⟨x0, x1⟩ := x;obtain ⟨y0, y1⟩ := y;simp only [J1y];by_cases e0 : x0 = y0 <;>
 by_cases e1 : x1 = y1 <;> simp [e0, e1]
theorem Y8r {x : T_Fact} {l : Int} (h : in_Fact x) (h0 : 0 <= l) (h1 : l <= 1048576) (hN : 1048576 < N) : Z69 N x l = some (sub1 l (s_Fact x)) := by
 unfold Z69 s_Fact;rw [Y3a (l := l) h.2 (by omega) (by omega) hN, J0];unfold sub1;split
 ·rw [J4 (by omega)]; rfl
 ·rfl
abbrev T_FactS := List T_Fact
def in_FactS (a : T_FactS) : Prop := a.length <= 9223372036854775807 /\ ∀ y ∈ a, in_Fact y
def s_FactS (a : T_FactS) : Nat := sumL s_Fact a
def b_FactS (a : T_FactS) : Prop := a.length <= 1048576 /\ ∀ y ∈ a, b_Fact y
theorem Y6z {a : T_FactS} (h : s_FactS a <= 1048576) : b_FactS a := ⟨(Y38 h), fun y hy => Y7n (Jq (Y39 hy) h)⟩
theorem Y7o {a : T_FactS} (h : b_FactS a) (hN : 1048576 < N) : Z6i N a = some a := by
 have hl : a.length <= 1048576 := h.1;unfold Z6i Z9r;rw [Y15 (by omega), grd_true];refine fill (b := a) (fun k out i => Z5g N k a out i) (fun k out => by simp [Z5g, Z7r]) (fun k out j h1 h3 => ?_) (by omega) (by simp);have h2 : j < out.length := by omega
 have hj : (j : Int) < (a.length : Int) := by omega
 simp [Z5g, Z7r, hj, Y0 h1, Y0 h2, Y2 h1, Y8p (h.2 _ (J5 h1)) hN, Y1 (j := j)]
theorem Y7p {a b : T_FactS} (h : b_FactS a) (hN : 1048576 < N) : Z6s N a b = some (decide (a = b)) := by
 have hla : a.length <= 1048576 := h.1;unfold Z6s Z9w;by_cases hl : a.length = b.length
 ·have h0 : ((a.length : Int) != (b.length : Int)) = false := by simp [hl]
  rw [h0, J3, decide_eq_decide.2 (Yq hl)];refine Y3k (n := a.length) (fun j => decide (a[j]? = b[j]?)) (fun k i => Z5o N k a b i) (fun k => by simp [Z5o, Z7v]) (fun k j hj => ?_) (by omega);have h1 : (j : Int) < (a.length : Int) := by omega
  have h2 : j < b.length := by omega
  simp only [zS, Z5o, Z7v, h1, Y0 hj, Y0 h2, Y2 hj, Y2 h2, Y8q (h.2 _ (J5 hj)) hN, Y1e, Y1 (j := j), Jh hj, Jh h2, J15]
 ·have h0 : ((a.length : Int) != (b.length : Int)) = true := by simp; omega
  rw [h0, J7];have : a ≠ b := fun h => hl (by rw [h]);simp [this]
theorem Y7q {a : T_FactS} {l : Int} (h : in_FactS a) (h0 : 0 <= l) (h1 : l <= 1048576) (hN : 1048576 < N) : Z6f N a l = some (sub1 l (s_FactS a)) := by
 have hlen := h.1;unfold Z6f Z9p;rw [Y5];by_cases hc : (a.length : Int) <= l
 ·rw [J4 (by omega), J3];rw [szL (a := a) (s := s_Fact) (g := fun x l => Z69 N x l) (f := fun k l i => Z5d N k a l i) (fun x hx l h0 h1 => Y8r (h.2 x hx) h0 h1 hN) (fun k l => by simp [Z5d, Z7p]) (fun k l j hj => by
    have h2 : (j : Int) < (a.length : Int) := by omega
    simp only [zS, Z5d, Z7p, h2, Y0 hj, Y2 hj, Y1 (j := j)]) (by omega) (by omega) (by omega)]
  unfold s_FactS sumL sub1;congr 1;split <;> split <;> omega
 ·rw [J1 (by omega), J7];unfold s_FactS sumL sub1;rw [Jj (by omega)]
abbrev T_Database := (List (ByteArray × Int × Int)) × List (Int × List Int)
def in_Database (x : T_Database) : Prop := in_RelationS x.1 /\ in_FactS x.2
def s_Database (x : T_Database) : Nat := s_RelationS x.1 + s_FactS x.2
def b_Database (x : T_Database) : Prop := b_RelationS x.1 /\ b_FactS x.2
theorem Y4x {x : T_Database} (h : s_Database x <= 1048576) : b_Database x := ⟨Y44 (by unfold s_Database at h; omega), Y6z (by unfold s_Database at h; omega)⟩
theorem Y5b {x : T_Database} (h : b_Database x) (hN : 1048576 < N) : Z2r N x = some x := by
 simp [Z2r, Y4u h.1 hN, Y7o h.2 hN]
theorem Y5c {x y : T_Database} (h : b_Database x) (hN : 1048576 < N) : Z4i N x y = some (decide (x = y)) := by
 simp only [Z4i, bneI, bneB, beqB, Y29, Y4v h.1 hN, Y7p h.2 hN, J0];obtain ⟨x0, x1⟩ := x;obtain ⟨y0, y1⟩ := y;simp only [J1y];by_cases e0 : x0 = y0 <;>
 by_cases e1 : x1 = y1 <;> simp [e0, e1]
theorem Y5d {x : T_Database} {l : Int} (h : in_Database x) (h0 : 0 <= l) (h1 : l <= 1048576) (hN : 1048576 < N) : Z49 N x l = some (sub1 l (s_Database x)) := by
 unfold Z49 s_Database;rw [Y4w (l := l) h.1 (by omega) (by omega) hN, J0];by_cases c0 : (s_RelationS x.1 : Int) <= l
 case neg => rw [Y8 c0]; rw [Y8 (by omega)]; rfl
 rw [Yd c0, J4 (show ¬ l - (s_RelationS x.1 : Int) < 0 by omega), J3];rw [Y7q (l := (l - (s_RelationS x.1 : Int))) h.2 (by omega) (by omega) hN, J0];by_cases c1 : (s_FactS x.2 : Int) <= (l - (s_RelationS x.1 : Int))
 case neg => rw [Y8 c1]; rw [Y8 (by omega)]; rfl
 rw [Yd c1, J4 (show ¬ (l - (s_RelationS x.1 : Int)) - (s_FactS x.2 : Int) < 0 by omega), J3];rw [Yd (by omega)]; congr 1; omega
abbrev T_Atom := Int × List Int
def in_Atom (x : T_Atom) : Prop := in_int x.1 /\ in_IntS x.2
def s_Atom (x : T_Atom) : Nat := s_IntS x.2
def b_Atom (x : T_Atom) : Prop := b_IntS x.2
theorem Y7r {x : T_Atom} (h : s_Atom x <= 1048576) : b_Atom x := Y2d (by unfold s_Atom at h; omega)
theorem Y8s {x : T_Atom} (h : b_Atom x) (hN : 1048576 < N) : Z7d N x = some x := by
 simp [Z7d, Y1u h hN]
theorem Y8t {x y : T_Atom} (h : b_Atom x) (hN : 1048576 < N) : Z7o N x y = some (decide (x = y)) := by
 simp only [Z7o, bneI, bneB, beqB, Y29, Y1v h hN, J0];obtain ⟨x0, x1⟩ := x;obtain ⟨y0, y1⟩ := y;simp only [J1y];by_cases e0 : x0 = y0 <;>
 by_cases e1 : x1 = y1 <;> simp [e0, e1]
theorem Y8u {x : T_Atom} {l : Int} (h : in_Atom x) (h0 : 0 <= l) (h1 : l <= 1048576) (hN : 1048576 < N) : Z6a N x l = some (sub1 l (s_Atom x)) := by
 unfold Z6a s_Atom;rw [Y3a (l := l) h.2 (by omega) (by omega) hN, J0];unfold sub1;split
 ·rw [J4 (by omega)]; rfl
 ·rfl
abbrev T_AtomS := List T_Atom
def in_AtomS (a : T_AtomS) : Prop := a.length <= 9223372036854775807 /\ ∀ y ∈ a, in_Atom y
def s_AtomS (a : T_AtomS) : Nat := sumL s_Atom a
def b_AtomS (a : T_AtomS) : Prop := a.length <= 1048576 /\ ∀ y ∈ a, b_Atom y
theorem Y70 {a : T_AtomS} (h : s_AtomS a <= 1048576) : b_AtomS a := ⟨(Y38 h), fun y hy => Y7r (Jq (Y39 hy) h)⟩
theorem Y7s {a : T_AtomS} (h : b_AtomS a) (hN : 1048576 < N) : Z6j N a = some a := by
 have hl : a.length <= 1048576 := h.1;unfold Z6j Z9s;rw [Y15 (by omega), grd_true];refine fill (b := a) (fun k out i => Z5h N k a out i) (fun k out => by simp [Z5h, Z7s]) (fun k out j h1 h3 => ?_) (by omega) (by simp);have h2 : j < out.length := by omega
 have hj : (j : Int) < (a.length : Int) := by omega
 simp [Z5h, Z7s, hj, Y0 h1, Y0 h2, Y2 h1, Y8s (h.2 _ (J5 h1)) hN, Y1 (j := j)]
theorem Y7t {a b : T_AtomS} (h : b_AtomS a) (hN : 1048576 < N) : Z6t N a b = some (decide (a = b)) := by
 have hla : a.length <= 1048576 := h.1;unfold Z6t Z9x;by_cases hl : a.length = b.length
 ·have h0 : ((a.length : Int) != (b.length : Int)) = false := by simp [hl]
  rw [h0, J3, decide_eq_decide.2 (Yq hl)];refine Y3k (n := a.length) (fun j => decide (a[j]? = b[j]?)) (fun k i => Z5p N k a b i) (fun k => by simp [Z5p, Z7w]) (fun k j hj => ?_) (by omega);have h1 : (j : Int) < (a.length : Int) := by omega
  have h2 : j < b.length := by omega
  simp only [zS, Z5p, Z7w, h1, Y0 hj, Y0 h2, Y2 hj, Y2 h2, Y8t (h.2 _ (J5 hj)) hN, Y1e, Y1 (j := j), Jh hj, Jh h2, J15]
 ·have h0 : ((a.length : Int) != (b.length : Int)) = true := by simp; omega
  rw [h0, J7];have : a ≠ b := fun h => hl (by rw [h]);simp [this]
theorem Y7u {a : T_AtomS} {l : Int} (h : in_AtomS a) (h0 : 0 <= l) (h1 : l <= 1048576) (hN : 1048576 < N) : Z6g N a l = some (sub1 l (s_AtomS a)) := by
 have hlen := h.1;unfold Z6g Z9q;rw [Y5];by_cases hc : (a.length : Int) <= l
 ·rw [J4 (by omega), J3];rw [szL (a := a) (s := s_Atom) (g := fun x l => Z6a N x l) (f := fun k l i => Z5e N k a l i) (fun x hx l h0 h1 => Y8u (h.2 x hx) h0 h1 hN) (fun k l => by simp [Z5e, Z7q]) (fun k l j hj => by
    have h2 : (j : Int) < (a.length : Int) := by omega
    simp only [zS, Z5e, Z7q, h2, Y0 hj, Y2 hj, Y1 (j := j)]) (by omega) (by omega) (by omega)]
  unfold s_AtomS sumL sub1;congr 1;split <;> split <;> omega
 ·rw [J1 (by omega), J7];unfold s_AtomS sumL sub1;rw [Jj (by omega)]
abbrev T_Query := Int × (List (Int × List Int)) × List Int
def in_Query (x : T_Query) : Prop := in_int x.1 /\ in_AtomS x.2.1 /\ in_IntS x.2.2
def s_Query (x : T_Query) : Nat := s_AtomS x.2.1 + s_IntS x.2.2
def b_Query (x : T_Query) : Prop := b_AtomS x.2.1 /\ b_IntS x.2.2
theorem Y71 {x : T_Query} (h : s_Query x <= 1048576) : b_Query x := ⟨Y70 (by unfold s_Query at h; omega), Y2d (by unfold s_Query at h; omega)⟩
theorem Y7v {x : T_Query} (h : b_Query x) (hN : 1048576 < N) : Z4b N x = some x := by
 simp [Z4b, Y7s h.1 hN, Y1u h.2 hN]
theorem Y7w {x y : T_Query} (h : b_Query x) (hN : 1048576 < N) : Z6u N x y = some (decide (x = y)) := by
 simp only [Z6u, bneI, bneB, beqB, Y29, Y7t h.1 hN, Y1v h.2 hN, J0];obtain ⟨x0, x1, x2⟩ := x;obtain ⟨y0, y1, y2⟩ := y;simp only [J1y];by_cases e0 : x0 = y0 <;>
 by_cases e1 : x1 = y1 <;>
 by_cases e2 : x2 = y2 <;> simp [e0, e1, e2]
theorem Y7x {x : T_Query} {l : Int} (h : in_Query x) (h0 : 0 <= l) (h1 : l <= 1048576) (hN : 1048576 < N) : Z6h N x l = some (sub1 l (s_Query x)) := by
 unfold Z6h s_Query;rw [Y7u (l := l) h.2.1 (by omega) (by omega) hN, J0];by_cases c0 : (s_AtomS x.2.1 : Int) <= l
 case neg => rw [Y8 c0]; rw [Y8 (by omega)]; rfl
 rw [Yd c0, J4 (show ¬ l - (s_AtomS x.2.1 : Int) < 0 by omega), J3];rw [Y3a (l := (l - (s_AtomS x.2.1 : Int))) h.2.2 (by omega) (by omega) hN, J0];by_cases c1 : (s_IntS x.2.2 : Int) <= (l - (s_AtomS x.2.1 : Int))
 case neg => rw [Y8 c1]; rw [Y8 (by omega)]; rfl
 rw [Yd c1, J4 (show ¬ (l - (s_AtomS x.2.1 : Int)) - (s_IntS x.2.2 : Int) < 0 by omega), J3];rw [Yd (by omega)]; congr 1; omega
theorem Yy {α β : Type} {piece : α -> List β} {n : Nat} : ∀ {a : List α}, (∀ x ∈ a, (piece x).length <= n) -> (a.flatMap piece).length <= a.length * n
 | [], _ => by simp
 | x :: a, h => by
  have h1 := h x (by simp);have h2 := Yy (a := a) fun y hy => h y (by simp [hy]);rw [J1j, J11, J19, Nat.add_mul]; omega
theorem Y1d : ∀ {a b : List Int}, a.Pairwise (· < ·) -> b.Pairwise (· < ·) -> (∀ x, x ∈ a ↔ x ∈ b) -> a = b
 | [], [], _, _, _ => rfl
 | [], y :: b, _, _, h => by have := (h y).2 (by simp); simp at this
 | x :: a, [], _, _, h => by have := (h x).1 (by simp); simp at this
 | x :: a, y :: b, ha, hb, h => by
  rw [J1e] at ha hb;have e : x = y := by
   have h1 := (h x).1 (by simp);have h2 := (h y).2 (by simp);rcases Js.1 h1 with h1 | h1
   ·exact h1
   ·grind
  subst e;rw [Y1d ha.2 hb.2 fun z => ?_];have hz := h z;simp at hz;constructor
  ·grind
  ·grind
def uniq (s : List Int) : List Int := ((List.range s.length).filter fun j => decide (j = 0 \/ s.toArray[j]! ≠ s.toArray[j - 1]!)).map fun j => s.toArray[j]!
theorem Y17 {s : List Int} {j : Nat} (h : j < s.length) : s.toArray[j]! = s[j] := by grind
theorem Y69 {s : List Int} (h : s.Pairwise (· <= ·)) : (uniq s).Pairwise (· < ·) := by
 unfold uniq;rw [J18];refine (J2d _ J1u).imp_of_mem fun {i j} hi hj hlt => ?_;obtain ⟨hj1, hj2⟩ := Jm.1 hj;have hj1 := Ji.1 hj1;rw [J2, Y17 hj1, Y17 (show j - 1 < s.length by omega)] at hj2;rw [Y17 (show i < s.length by omega), Y17 hj1];have h1 := Jp.1 h (j - 1) j (by omega) hj1 (by omega);have h2 : s[i] <= s[j - 1] := by
  by_cases e : i = j - 1
  ·grind
  ·exact Jp.1 h i (j - 1) (by omega) (by omega) (by omega)
 rcases hj2 with hj2 | hj2 <;> omega
theorem Y8v {s : List Int} (x : Int) : x ∈ uniq s ↔ x ∈ s := by
 unfold uniq;rw [J9];constructor
 ·grind
 ·intro hx;obtain ⟨j, hj, rfl⟩ := Jk.1 hx;have key : ∀ j (hj : j < s.length), ∃ i, i ∈ ((List.range s.length).filter fun j => decide (j = 0 \/ s.toArray[j]! ≠ s.toArray[j - 1]!)) /\ s.toArray[i]! = s[j] := by
   intro j
   induction j with
   | zero => intro hj; exact ⟨0, Jm.2 ⟨Ji.2 hj, by simp⟩, Y17 hj⟩
   | succ j ih =>
    intro hj;by_cases e : s[j + 1] = s[j]
    ·grind
    ·refine ⟨j + 1, Jm.2 ⟨Ji.2 hj, ?_⟩, Y17 hj⟩;rw [J2, Y17 hj, Nat.add_sub_cancel, Y17 (show j < s.length by omega)];exact .inr e
  exact key j hj
def setOf (s : List Int) : List Int := uniq (s.mergeSort fun a b => decide (a <= b))
theorem Y5e (s : List Int) : (setOf s).Pairwise (· < ·) := by
 refine Y69 ?_;have := List.pairwise_mergeSort (le := fun a b : Int => decide (a <= b)) (fun a b c h1 h2 => by simp at *; omega) (fun a b => by grind) s;exact this.imp fun h => by simpa using h
theorem Y46 {s : List Int} (x : Int) : x ∈ setOf s ↔ x ∈ s := by unfold setOf; rw [Y8v, List.mem_mergeSort]
theorem Y7y (s : List Int) : (setOf s).length <= s.length := by
 unfold setOf uniq;rw [Jb, List.length_mergeSort];have := Jo (fun j => decide (j = 0 \/ (s.mergeSort fun a b => decide (a <= b)).toArray[j]! ≠ (s.mergeSort fun a b => decide (a <= b)).toArray[j - 1]!)) (List.range (s.mergeSort fun a b => decide (a <= b)).length)
 rwa [Jr, List.length_mergeSort] at this
theorem Y9l {L : List (List Int)} (hl : L.length <= 1000) (hs : (L.map List.length).sum <= 1000000) (hN : 1048576 < N) : Z2l N L = some L.flatten := by
 have sum_take : ∀ (L : List (List Int)) (j : Nat), ((L.take j).map List.length).sum <= (L.map List.length).sum := by
  intro L
  induction L with
  | nil => intro j; simp
  | cons b L ih =>
   intro j;cases j with
   | zero => simp
   | succ j => grind
 have flat_len : ∀ L : List (List Int), L.flatten.length = (L.map List.length).sum := fun L => List.length_flatten;have inner : Z1t N N [] L (L.length : Int) 0 = some L.flatten := by
  have := loop (fun k (s : Nat) => Z1t N k (L.take s).flatten L (L.length : Int) (s : Int)) (fun s => s <= L.length) (fun s => L.length - s) (fun o => o = some L.flatten) (fun k j hj' => by
   simp only [Z1t, Z57];by_cases hj : j < L.length
   ·right;refine ⟨j + 1, hj, by omega, ?_⟩;have h1 : (j : Int) < (L.length : Int) := by omega
    have t := sum_take L (j + 1);rw [J6 hj, Jg, List.sum_append] at t;simp only [Jy, List.map_nil, J1r, List.sum_nil] at t;simp only [zS, h1, Y0 hj, Y2 hj];rw [Y4 (by omega) (by rw [flat_len]; omega), grd_true, Y1, J6 hj, J1p];simp only [Jv, List.flatten_nil, Jl]
   ·grind) N 0 (by omega) (by omega)
  exact this
 have := loop (fun k (s : Nat) => Z2t N k L (((L.take s).map List.length).sum : Int) L (L.length : Int) (s : Int)) (fun s => s <= L.length) (fun s => L.length - s) (fun o => o = some L.flatten) (fun k j hj' => by
  simp only [Z2t, Z58];by_cases hj : j < L.length
  ·right;refine ⟨j + 1, hj, by omega, ?_⟩;have h1 : (j : Int) < (L.length : Int) := by omega
   have t := sum_take L (j + 1);have e : ((L.take (j + 1)).map List.length).sum = ((L.take j).map List.length).sum + (L[j]).length := by
    rw [J6 hj, Jg, List.sum_append];simp
   have ew : w64 ((((L.take j).map List.length).sum : Int) + ((L[j]).length : Int)) = (((L.take (j + 1)).map List.length).sum : Int) := by
    rw [e, Y5];omega
   have h2 : ¬ ((((L.take (j + 1)).map List.length).sum : Nat) : Int) < 0 := by omega
   simp only [zS, h1, Y0 hj, Y2 hj, ew, J4 h2, Y1 (j := j)]
  ·left;have h1 : ¬ (j : Int) < (L.length : Int) := by omega
   have e : L.take j = L := J1d (by omega);have g : (decide ((0 : Int) <= ((L.map List.length).sum : Int)) && decide ((([] : List Int).length + (((L.map List.length).sum : Nat) : Int).toNat) * 8 <= 140737488355328)) = true := by
    rw [Ja, J2, J2, Jn];simp only [J2m];omega
   simp only [zS, h1, e, Z86, g, inner]) N 0 (by omega) (by omega)
 exact this
theorem Y7z {a b : List Int} (ha : a.length <= 100000) (hb : b.length <= 100000) (hN : 1048576 < N) : Z67 N a b = some (setOf (a ++ b)) := by
 unfold Z67;rw [Y9l (by simp) (by simp; omega) hN, J0];unfold Z1b Z6y;have e : [a, b].flatten = a ++ b := by simp
 rw [e, J1 (by rw [J11]; omega), grd_true];rfl
def weightsIn (w : List Int) : Bool := w.all fun x => decide (1 <= x /\ x <= 9)
def validWeights (d : Db) (w : List Int) : Bool := validDb d && (decide (w.length = d.2.length) && weightsIn w)
theorem Yz {d : Db} {w : List Int} (h : SmallDb d) (hw : w.length <= 1048576) (hN : 1048576 < N) : Z0o N d w = some (validWeights d w) := by
 unfold Z0o Z7h;rw [Y9 (n := w.length) (fun j => decide (1 <= w.getD j 0 /\ w.getD j 0 <= 9)) (some false) (some (validDb d && decide (w.length = d.2.length))) (fun k i => Z23 N k w d.1 d.2 i)
  (fun k => by
   simp only [zS, Z23, Z46, Je, Y16 (d := (d.1, d.2)) h hN, beqI];cases hv : validDb d with
   | false => rfl
   | true => simp only [J7, Jd, J15]; exact decide_eq_decide.2 (by omega)) (fun k j hj => ?_) (by omega)]
 ·unfold validWeights weightsIn;by_cases h4 : ∀ j, j < w.length -> decide (1 <= w.getD j 0 /\ w.getD j 0 <= 9) = true
  ·rw [Jf h4, (Y2s (d := (0 : Int)) (p := fun x => decide (1 <= x /\ x <= 9))).1 h4, Bool.and_true]
  ·grind
 ·have h1 : (j : Int) < (w.length : Int) := by omega
  simp only [zS, Z23, Z46, h1, Y0 hj, Y2 hj, l1In, Y3 hj, Y1 (j := j), Y1e]
theorem Y10 {d : Db} {w : List Int} (h : SmallDb d) (hw : w.length <= 1048576) (hN : 1048576 < N) : Z1e N d w = some (validWeights d w) := by
 unfold Z1e;rw [Y7h h hN, J0];unfold validWeights;cases validDb d with
 | false => rfl
 | true =>
  simp only [J7, Jd, beqI];by_cases he : w.length = d.2.length
  ·have e2 : (w.length : Int) = (d.2.length : Int) := by omega
   rw [J1 e2, J7, J1 he, Jd];unfold Z3 Z7 Z1l;rw [Ye (d := (0 : Int)) (xs := w) (p := fun x => !decide (1 <= x /\ x <= 9)) (first (n := w.length) (fun j => !decide (1 <= w.getD j 0 /\ w.getD j 0 <= 9)) (fun k i => Z2 N k w (w.length : Int) i) (fun k => by simp [Z2, Z0n]) (fun k j hj => ?_) (by omega))]
   ·simp only [J0, weightsIn];rw [show (w.any fun x => !decide (1 <= x /\ x <= 9)) = !(w.all fun x => decide (1 <= x /\ x <= 9)) from (List.not_all_eq_any_not (l := w) (p := fun x => decide (1 <= x /\ x <= 9))).symm, Bool.not_not]
   ·have h1 : (j : Int) < (w.length : Int) := by omega
    simp only [zS, Z2, Z0n, h1, Y0 hj, Y2 hj, Z29, Yk, Y3 hj, Y1 (j := j)];cases decide (1 <= w[j] /\ w[j] <= 9) <;> rfl
  ·grind
def validSet (n : Nat) (l : List Int) : Bool := decide (∀ j, j < l.length -> (decide (0 <= l.getD j 0 /\ l.getD j 0 <= (n : Int) - 1) && (decide (j = 0) || decide (l.getD (j - 1) 0 < l.getD j 0))) = true)
theorem Y6l {d : Db} {l : List Int} (h : SmallDb d) (hl : l.length <= 1048576) (hN : 1048576 < N) : Z5w N d l = some (validSet d.2.length l) := by
 have hf := h.facts;unfold Z5w Z0af;rw [Y9 (n := l.length) (fun j => decide (0 <= l.getD j 0 /\ l.getD j 0 <= (d.2.length : Int) - 1) && (decide (j = 0) || decide (l.getD (j - 1) 0 < l.getD j 0))) (some false) (some true) (fun k i => Z72 N k l d.1 d.2 i)
  (fun k => by simp [Z72, Z8p]) (fun k j hj => ?_) (by omega)]
 ·unfold validSet;split
  ·rename_i h4; rw [J1 h4]
  ·rename_i h4; rw [J4 h4]
 ·have h1 : (j : Int) < (l.length : Int) := by omega
  simp only [zS, Z72, Z8p, h1, Y0 hj, Y2 hj, l1In, Y3 hj, Y1 (j := j), Y5 (show -9223372036854775808 <= (d.2.length : Int) - 1 by omega) (by omega)];cases decide (0 <= l[j] /\ l[j] <= (d.2.length : Int) - 1) with
  | false => rfl
  | true =>
   simp only [zS, Jd];by_cases h0 : j = 0
   ·subst h0; simp
   ·have h3 : (j : Int) > 0 := by omega
    have h4 : j - 1 < l.length := by omega
    simp only [zS, h3, Yc (show 0 < j by omega) (by omega), Y0 h4, Y2 h4, h0, J1h, Y3 h4];by_cases h5 : l[j - 1] < l[j]
    ·grind
    ·grind
theorem Y9m {n : Nat} {l : List Int} (hn : n <= 1048576) (hl : l.length <= 1048576) (hN : 1048576 < N) : Z4f N l (n : Int) = some (validSet n l) := by
 unfold Z4f Z98;rw [Y9 (n := l.length) (fun j => decide (0 <= l.getD j 0 /\ l.getD j 0 <= (n : Int) - 1) && (decide (j = 0) || decide (l.getD (j - 1) 0 < l.getD j 0))) (some false) (some true) (fun k i => Z3z N k l (n : Int) l (l.length : Int) i)
  (fun k => by simp [Z3z, Z66]) (fun k j hj => ?_) (by omega)]
 ·unfold validSet;split
  ·simp_all
  ·simp_all
 ·have h1 : (j : Int) < (l.length : Int) := by omega
  simp only [zS, Z3z, Z66, h1, Y0 hj, Y2 hj, Yk, Y3 hj, Y1 (j := j), Y5 (show -9223372036854775808 <= (n : Int) - 1 by omega) (by omega)];cases decide (0 <= l[j] /\ l[j] <= (n : Int) - 1) with
  | false => rfl
  | true =>
   simp only [zS, Jd];by_cases h0 : j = 0
   ·subst h0; simp
   ·have h3 : (j : Int) > 0 := by omega
    have h4 : j - 1 < l.length := by omega
    simp only [zS, h3, Yc (show 0 < j by omega) (by omega), Y0 h4, Y2 h4, h0, J1h, Y3 h4];by_cases h5 : l[j - 1] < l[j]
    ·grind
    ·grind
theorem Y9d (N : Nat) (w l : List Int) : ∀ k n i, Z6r N k w n l (l.length : Int) i = Z1c N k w l n i
 | 0, _, _ => rfl
 | k + 1, n, i => by
  simp only [Z6r, Z90, Z1c, Z3m, Y9d N w l k]
theorem Y6a {r : Rel} (h : validRel r = true) : 1 <= r.2.1 /\ r.2.1 <= 3 := by
 unfold validRel Z5 at h;by_cases h1 : r.1.size = 1
 ·have hb : ∃ b, byteAt r.1 0 = some b := by
   unfold byteAt;have : (0 : Int).toNat < r.1.size := by omega
   exact ⟨r.1[(0 : Int).toNat], by rw [Jf (by omega), getElem?_pos]⟩
  obtain ⟨b, hb⟩ := hb;rw [hb] at h;simp only [J0, l1In] at h;by_cases h2 : 1 <= r.2.1 /\ r.2.1 <= 3
  ·exact h2
  ·grind
 ·grind
abbrev Atm := Int × List Int
abbrev Qry := Int × List Atm × List Int
def arity (l : List Rel) (r : Int) : Int := (l.getD r.toNat (⟨#[]⟩, 0, 0)).2.1
def termsOk (n : Nat) (ts : List Int) : Bool := ts.all fun t => decide (-10 <= t /\ t <= (n : Int) - 1)
def atomAt (as : List Atm) (j : Nat) : Atm := as.getD j (0, [])
def newRel (as : List Atm) (j : Nat) : Bool := !((as.take j).any fun b => decide (b.1 = (atomAt as j).1))
def atomOk (l : List Rel) (n : Nat) (as : List Atm) (j : Nat) : Bool := decide (0 <= (atomAt as j).1 /\ (atomAt as j).1 <= (l.length : Int) - 1) && (decide (((atomAt as j).2.length : Int) = arity l (atomAt as j).1) && (newRel as j && termsOk n (atomAt as j).2))
def occB (as : List Atm) (v : Int) : Bool := as.any fun a => decide (v ∈ a.2)
def allOcc (n : Nat) (as : List Atm) : Bool := decide (∀ v, v < n -> occB as (v : Int) = true)
def atomsOk (l : List Rel) (n : Nat) (as : List Atm) : Bool := decide (∀ j, j < as.length -> atomOk l n as j = true)
def validQ (l : List Rel) (q : Qry) : Bool := validRels l && (decide (0 <= q.1 /\ q.1 <= 4) && (decide (1 <= (q.2.1.length : Int) /\ (q.2.1.length : Int) <= 3) && (atomsOk l q.1.toNat q.2.1 && (allOcc q.1.toNat q.2.1 && validSet q.1.toNat q.2.2))))
theorem Y3b {l : List Rel} {r : Int} (hv : validRels l = true) (h : 0 <= r /\ r <= (l.length : Int) - 1) : 1 <= arity l r /\ arity l r <= 3 := Y6a (Y2a hv (j := r.toNat) (by omega))
def metL (f : Nat -> Bool) : List Bool := [f 0, f 1, f 2, f 3]
theorem Y6m {f : Nat -> Bool} {v : Nat} (h : v < 4) : inb (v : Int) (metL f) = true /\ at_ false (metL f) (v : Int) = f v := by
 have hl : v < (metL f).length := h;refine ⟨Y0 hl, ?_⟩;rw [Y2 hl]
 match v, h with
 | 0, _ => rfl
 | 1, _ => rfl
 | 2, _ => rfl
 | 3, _ => rfl
theorem Y8w {f : Nat -> Bool} {t : Nat} (h : t < 4) : (metL f).set t true = metL fun v => f v || decide (v = t) := by
 match t, h with
 | 0, _ => simp [metL]
 | 1, _ => simp [metL]
 | 2, _ => simp [metL]
 | 3, _ => simp [metL]
theorem Y1w {f g : Nat -> Bool} (h : ∀ v, f v = g v) : metL f = metL g := by
 unfold metL;rw [h 0, h 1, h 2, h 3]
theorem Y80 {N n : Nat} {l : List Rel} {as : List Atm} {fr : List Int} {j : Nat} {a : Int} {ts : List Int} (hn : n <= 4) (hts : ts.length <= 3) (hN : 1048576 < N) (R : List Rel -> Int -> List Atm -> List Int -> List Bool -> Int -> Option Bool) (f : Nat -> Bool) :
  Z1m R N N l (n : Int) as fr (metL f) (j : Int) a ts 0 = if termsOk n ts then R l (n : Int) as fr (metL fun v => f v || decide ((v : Int) ∈ ts)) (w64 ((j : Int) + 1)) else some false := by
 have := loop (fun k (q : Nat) => Z1m R N k l (n : Int) as fr (metL fun v => f v || decide ((v : Int) ∈ ts.take q)) (j : Int) a ts (q : Int)) (fun q => q <= ts.length /\ termsOk n (ts.take q) = true) (fun q => ts.length - q) (fun o => o = if termsOk n ts then R l (n : Int) as fr (metL fun v => f v || decide ((v : Int) ∈ ts)) (w64 ((j : Int) + 1)) else some false) (fun k q hs => by
  obtain ⟨hq', hok⟩ := hs;simp only [Z1m, Z7f];by_cases hq : q < ts.length
  ·have e1 : (q : Int) < (ts.length : Int) := by omega
   simp only [zS, e1, Y0 hq, Y2 hq, l1In, Y5 (x := (n : Int) - 1), Y1 (j := q)];by_cases ht : -10 <= ts[q] /\ ts[q] <= (n : Int) - 1
   ·right;have hok2 : termsOk n (ts.take (q + 1)) = true := by
     unfold termsOk at *;rw [J6 hq, List.all_append, hok];simp [ht]
    refine ⟨q + 1, ⟨hq, hok2⟩, by omega, ?_⟩;rw [J1 ht, Jc, J3];by_cases h0 : ts[q] >= 0
    ·obtain ⟨t, e⟩ : ∃ t : Nat, ts[q] = (t : Int) := ⟨ts[q].toNat, by omega⟩;have ht4 : t < 4 := by omega
     rw [J1 h0, J7, e, (Y6m ht4).1, grd_true, grd_true, letv_eq, Jn, Y8w ht4];congr 1;refine Y1w fun v => ?_;rw [J6 hq, e];have : decide ((v : Int) ∈ ts.take q ++ [(t : Int)]) = (decide ((v : Int) ∈ ts.take q) || decide (v = t)) := by grind
     rw [this, Bool.or_assoc]
    ·rw [J4 h0, J3];congr 1;refine Y1w fun v => ?_;rw [J6 hq];have : decide ((v : Int) ∈ ts.take q ++ [ts[q]]) = decide ((v : Int) ∈ ts.take q) := by grind
     rw [this]
   ·left;have : termsOk n ts = false := by
     rw [J1i];intro h;unfold termsOk at h;exact ht (of_decide_eq_true (Jw.1 h _ (J5 hq)))
    rw [J4 ht, Jz, J7, this];rfl
  ·left;have : q = ts.length := by omega
   subst this;rw [J12] at hok;simp [J3, hok]) N 0 (by omega) (by simp [termsOk])
 simpa using this
theorem Y9n {N n : Nat} {l : List Rel} {as : List Atm} {fr : List Int} {met : List Bool} {j : Nat} {ts : List Int} (has : as.length <= 3) (hj : j < as.length) (hN : 1048576 < N) (R : List Rel -> Int -> List Atm -> List Int -> List Bool -> Int -> Option Bool) :
  Z2a R N N l (n : Int) as fr met (j : Int) (atomAt as j).1 ts 0 = if newRel as j then Z1m R N N l (n : Int) as fr met (j : Int) (atomAt as j).1 ts 0 else some false := by
 have := Y9 (n := j) (fun k => !decide ((atomAt as k).1 = (atomAt as j).1)) (some false) (Z1m R N N l (n : Int) as fr met (j : Int) (atomAt as j).1 ts 0) (fun k i => Z2a R N k l (n : Int) as fr met (j : Int) (atomAt as j).1 ts i) (fun k => by simp [Z2a, Z4z, J3]) (fun k i hi => by
  have h1 : (i : Int) < (j : Int) := by omega
  have h2 : i < as.length := by omega
  simp only [zS, Z2a, Z4z, h1, Y0 h2, Y2 h2, Y1 (j := i), beqI];have e : atomAt as i = as[i] := Y3 h2;rw [e];by_cases hh : as[i].1 = (atomAt as j).1
  ·simp [hh]
  ·grind) (k := N) (by omega)
 rw [this];have e : newRel as j = decide (∀ i, i < j -> (!decide ((atomAt as i).1 = (atomAt as j).1)) = true) := by
  unfold newRel;rw [J1b, J2, J2k, J25];constructor
  ·intro h i hi;have hm : atomAt as i ∈ as.take j := by
    rw [show atomAt as i = as[i]'(by omega) from Y3 (by omega)];rw [Jk];exact ⟨i, by rw [Jt]; omega, by grind⟩
   have := h _ hm;simpa using this
  ·intro h b hb;obtain ⟨i, hi, rfl⟩ := Jk.1 hb;have hi2 : i < j := by grind
   rw [J26];have := h i hi2;rw [show atomAt as i = as[i]'(by omega) from Y3 (by omega)] at this;simpa using this
 rw [e];by_cases hh : ∀ i, i < j -> (!decide ((atomAt as i).1 = (atomAt as j).1)) = true
 ·grind
 ·grind
theorem Y9o {N n : Nat} {as : List Atm} {fr : List Int} {f : Nat -> Bool} (hn : n <= 4) (hfr : fr.length <= 1048576) (hN : 1048576 < N) :
  Z2c N N (n : Int) as fr (metL f) 0 = some (decide (∀ v, v < n -> f v = true) && validSet n fr) := by
 have h4 : Z2b N N (n : Int) as fr 0 = some (validSet n fr) := by
  rw [Y9 (n := fr.length) (fun j => decide (0 <= fr.getD j 0 /\ fr.getD j 0 <= (n : Int) - 1) && (decide (j = 0) || decide (fr.getD (j - 1) 0 < fr.getD j 0))) (some false) (some true) (fun k i => Z2b N k (n : Int) as fr i)
   (fun k => by simp [Z2b, Z50]) (fun k j hj => ?_) (by omega)]
  ·unfold validSet;split
   ·rename_i h4; rw [J1 h4]
   ·rename_i h4; rw [J4 h4]
  ·have h1 : (j : Int) < (fr.length : Int) := by omega
   simp only [zS, Z2b, Z50, h1, Y0 hj, Y2 hj, l1In, Y3 hj, Y1 (j := j), Y5 (show -9223372036854775808 <= (n : Int) - 1 by omega) (by omega)];cases decide (0 <= fr[j] /\ fr[j] <= (n : Int) - 1) with
   | false => rfl
   | true =>
    simp only [zS, Jd];by_cases h0 : j = 0
    ·subst h0; simp
    ·have h3 : (j : Int) > 0 := by omega
     have h4 : j - 1 < fr.length := by omega
     simp only [zS, h3, Yc (show 0 < j by omega) (by omega), Y0 h4, Y2 h4, h0, J1h, Y3 h4];by_cases h5 : fr[j - 1] < fr[j]
     ·grind
     ·grind
 rw [Y9 (n := n) f (some false) (some (validSet n fr)) (fun k i => Z2c N k (n : Int) as fr (metL f) i) (fun k => by simp [Z2c, Z51, J3, h4]) (fun k j hj => ?_) (by omega)]
 ·grind
 ·have h1 : (j : Int) < (n : Int) := by omega
  obtain ⟨m1, m2⟩ := Y6m (f := f) (show j < 4 by omega);simp only [zS, Z2c, Z51, h1, m1, m2, Y1 (j := j)];cases f j <;> simp
theorem Y5f {as : List Atm} {j : Nat} (hj : j < as.length) (v : Int) : occB (as.take (j + 1)) v = (occB (as.take j) v || decide (v ∈ (atomAt as j).2)) := by
 unfold occB;rw [J6 hj, List.any_append, show atomAt as j = as[j] from Y3 hj];simp
theorem Y81 {l : List Rel} {q : Qry} (hl : l.length <= 1048576) (hq : q.2.2.length <= 1048576) (hN : 1048576 < N) : Z3b N l q = some (validQ l q) := by
 obtain ⟨n, as, fr⟩ := q;simp only at hq;unfold Z3b Z8h validQ;rw [Y1r hl hN, J0, l1In, l1In];cases hv : validRels l with
 | false => rfl
 | true =>
  by_cases hn : 0 <= n /\ n <= 4
  ·by_cases ha : 1 <= (as.length : Int) /\ (as.length : Int) <= 3
   ·obtain ⟨n, rfl⟩ : ∃ m : Nat, n = (m : Int) := ⟨n.toNat, by omega⟩;simp only [zS, J1 hn, J1 ha, Jd, Jn];rw [show makeOk 4 1 = true from rfl, grd_true];have hl4 : l.length <= 4 := (of_decide_eq_true hv).2;have := loop (fun k (j : Nat) => Z33 N k l (n : Int) as fr (metL fun v => occB (as.take j) (v : Int)) (j : Int)) (fun j => j <= as.length /\ ∀ i, i < j -> atomOk l n as i = true) (fun j => as.length - j) (fun o => o = some (atomsOk l n as && (allOcc n as && validSet n fr))) (fun k j hs => by
     obtain ⟨hj', hok⟩ := hs;simp only [Z33, Z7g];by_cases hj : j < as.length
     ·have e1 : (j : Int) < (as.length : Int) := by omega
      have ea : atomAt as j = as[j] := Y3 hj;have bad : atomOk l n as j = false -> some false = some (atomsOk l n as && (allOcc n as && validSet n fr)) := fun h => by
       have : atomsOk l n as = false := by
        unfold atomsOk;rw [J1q];intro hh;have := hh j hj;rw [h] at this;cases this
       rw [this]; rfl
      simp only [zS, e1, Y0 hj, Y2 hj, l1In, Y5 (x := (l.length : Int) - 1), <- ea];by_cases c1 : 0 <= (atomAt as j).1 /\ (atomAt as j).1 <= (l.length : Int) - 1
      ·obtain ⟨ar1, ar2⟩ := Y3b hv c1;rw [J1 c1, Jc, J3, Yb c1.1 (by omega), grd_true, bneI];rw [show (at_ (⟨#[]⟩, (0, 0)) l (atomAt as j).1).2.1 = arity l (atomAt as j).1 from rfl];by_cases c2 : ((atomAt as j).2.length : Int) = arity l (atomAt as j).1
       ·rw [J1 c2, Jc, J3, Y9n (by omega) hj hN];cases c3 : newRel as j with
        | false =>
         left;exact bad (by unfold atomOk; rw [c3, J1l, J10, J10])
        | true =>
         rw [Jf rfl, Y80 (by omega) (by omega) hN];cases c4 : termsOk n (atomAt as j).2 with
         | false =>
          left;exact bad (by unfold atomOk; rw [c4, J10, J10, J10])
         | true =>
          right;refine ⟨j + 1, ⟨hj, fun i hi => ?_⟩, by omega, ?_⟩
          ·by_cases e : i = j
           ·subst e;unfold atomOk;rw [J1 c1, J1 c2, c3, c4]; rfl
           ·exact hok i (by omega)
          ·rw [Jf rfl, Y1];congr 1;exact Y1w fun v => (Y5f hj (v : Int)).symm
       ·left;rw [J4 c2, Jz, J7];exact bad (by unfold atomOk; rw [J4 c2, J1l, J10])
      ·left;rw [J4 c1, Jz, J7];exact bad (by unfold atomOk; rw [J4 c1, J1l])
     ·left;have : j = as.length := by omega
      subst this;have hao : atomsOk l n as = true := J1 hok;simp only [zS, Je, Y9o (show n <= 4 by omega) hq hN, J12, hao, Jd];rfl) N 0 (by omega) ⟨by omega, fun i hi => by omega⟩
    exact this
   ·simp [hn, ha]
  ·simp [hn]
theorem Y9p {as : List Atm} {a : Atm} (has : as.length <= 1000) (hN : 1048576 < N) : Z1 N as a = some (as.any fun b => decide (b.1 = a.1)) := by
 unfold Z1 Z8 Z1o;rw [Ye (d := ((0, []) : Atm)) (xs := as) (p := fun b => decide (b.1 = a.1)) (first (n := as.length) (fun j => decide ((as.getD j (0, [])).1 = a.1)) (fun k i => Z4 N k as a (as.length : Int) i) (fun k => by simp [Z4, Z0q]) (fun k j hj => ?_) (by omega))];have h1 : (j : Int) < (as.length : Int) := by omega
 simp only [zS, Z4, Z0q, Z36, h1, Y0 hj, Y2 hj, Y3 hj, Y1 (j := j), beqI];cases decide (as[j].1 = a.1) <;> rfl
def varsIn (ts : List Int) : List Int := ts.filter fun t => decide (0 <= t /\ t <= 3)
theorem Y8x {a : Atm} (ha : a.2.length <= 1000) (hN : 1048576 < N) : Z30 N a = some (setOf (varsIn a.2)) := by
 unfold Z30 Z89 varsIn;have := loop (fun k (q : Nat) => Z40 N k ((a.2.take q).filter fun t => decide (0 <= t /\ t <= 3)) a.2 (a.2.length : Int) (q : Int)) (fun q => q <= a.2.length) (fun q => a.2.length - q) (fun o => o = some (setOf (a.2.filter fun t => decide (0 <= t /\ t <= 3)))) (fun k q hq' => by
  simp only [Z40, Z6z];by_cases hq : q < a.2.length
  ·right;refine ⟨q + 1, hq, by omega, ?_⟩;have h1 : (q : Int) < (a.2.length : Int) := by omega
   have hl := Jo (fun t => decide (0 <= t /\ t <= 3)) (a.2.take q);rw [Jt] at hl;simp only [zS, h1, Y0 hq, Y2 hq, Yk, Y1 (j := q)];rw [J6 hq, J1s];by_cases ht : 0 <= a.2[q] /\ a.2[q] <= 3
   ·rw [J1 ht, J7, Y4, grd_true];simp [ht]
   ·grind
  ·left;have : q = a.2.length := by omega
   subst this;have hl := Jo (fun t => decide (0 <= t /\ t <= 3)) a.2;simp only [zS, Je, J12];rw [Y7z (by omega) (by simp) hN, J0, Jl]) N 0 (by omega) (by omega)
 simpa using this
def varsOf (as : List Atm) : List Int := ((List.range 4).filter fun (v : Nat) => occB as (v : Int)).map fun (v : Nat) => (v : Int)
theorem Y3q {as : List Atm} {x : Int} : x ∈ varsOf as ↔ (0 <= x /\ x <= 3) /\ occB as x = true := by
 unfold varsOf;rw [J9];constructor
 ·grind
 ·rintro ⟨h1, h2⟩
  exact ⟨x.toNat, Jm.2 ⟨Ji.2 (by omega), by rw [show ((x.toNat : Nat) : Int) = x by omega]; exact h2⟩, by omega⟩
theorem Y4y (as : List Atm) : (varsOf as).Pairwise (· < ·) := by
 unfold varsOf;rw [J18];exact (J2d _ J1u).imp fun h => by omega
theorem Y72 (as : List Atm) : (varsOf as).length <= 4 := by
 unfold varsOf;rw [Jb];have := Jo (fun v : Nat => occB as (v : Int)) (List.range 4)
 rwa [Jr] at this
theorem Y6b {as : List Atm} {j : Nat} (hj : j < as.length) : setOf (varsOf (as.take j) ++ setOf (varsIn (atomAt as j).2)) = varsOf (as.take (j + 1)) := by
 refine Y1d (Y5e _) (Y4y _) fun x => ?_;rw [Y46, J2e, Y46, Y3q, Y3q, Y5f hj];unfold varsIn;rw [Jm, J2, J2c, J2];constructor
 ·grind
 ·grind
theorem Y73 {n : Nat} {as : List Atm} (hn : n <= 4) (hok : ∀ j, j < as.length -> termsOk n (atomAt as j).2 = true) : decide (((varsOf as).length : Int) = (n : Int)) = allOcc n as := by
 have hlt : ∀ v : Int, occB as v = true -> v <= (n : Int) - 1 := by
  intro v hv;obtain ⟨a, ha, hva⟩ := J1c.1 hv;obtain ⟨j, hj, rfl⟩ := Jk.1 ha;have := hok j hj;rw [show atomAt as j = as[j] from Y3 hj] at this;exact (of_decide_eq_true (Jw.1 this v (of_decide_eq_true hva))).2
 have e : (varsOf as).length = ((List.range n).filter fun (v : Nat) => occB as (v : Int)).length := by
  unfold varsOf;rw [Jb];have e4 : List.range 4 = List.range n ++ (List.range (4 - n)).map (n + ·) := by
   rw [<- List.range_add, show n + (4 - n) = 4 by omega]
  rw [e4, J1s, J11];have : ((List.range (4 - n)).map (n + ·)).filter (fun v : Nat => occB as (v : Int)) = [] := by
   rw [J27];intro v hv;obtain ⟨k, _, rfl⟩ := J9.1 hv;intro h;have := hlt _ h;omega
  rw [this]; rfl
 rw [e];unfold allOcc;rw [decide_eq_decide];have hl := Jo (fun v : Nat => occB as (v : Int)) (List.range n);rw [Jr] at hl;constructor
 ·intro h v hv;have h2 : ((List.range n).filter fun v : Nat => occB as (v : Int)).length = (List.range n).length := by grind
  exact J28.1 h2 v (Ji.2 hv)
 ·intro h;have h2 : ((List.range n).filter fun v : Nat => occB as (v : Int)).length = (List.range n).length := J28.2 fun v hv => h v (Ji.1 hv);rw [h2, Jr]
theorem Y82 {N n : Nat} {l : List Rel} {as : List Atm} {fr occ : List Int} {j : Nat} {a : Int} {ts : List Int} (hn : n <= 4) (hts : ts.length <= 3) (ho : occ.length <= 4) (hN : 1048576 < N) (R : List Rel -> Int -> List Atm -> List Int -> List Int -> List Atm -> Int -> Int -> Option Bool) :
  Z2i R N N l (n : Int) as fr occ a ts as (as.length : Int) (j : Int) ts (ts.length : Int) 0 = if termsOk n ts then R l (n : Int) as fr (setOf (occ ++ setOf (varsIn ts))) as (as.length : Int) (w64 ((j : Int) + 1)) else some false := by
 have hv := Y8x (N := N) (a := (a, ts)) (show ts.length <= 1000 by omega) hN;have hl1 : (varsIn ts).length <= 3 := Jq (Jo _ _) hts;have hl2 := Y7y (varsIn ts);have hu := Y7z (N := N) (a := occ) (b := setOf (varsIn ts)) (by omega) (by omega) hN;rw [Y9 (n := ts.length) (fun k => decide (-10 <= ts.getD k 0 /\ ts.getD k 0 <= (n : Int) - 1)) (some false) (R l (n : Int) as fr (setOf (occ ++ setOf (varsIn ts))) as (as.length : Int) (w64 ((j : Int) + 1))) (fun k i => Z2i R N k l (n : Int) as fr occ a ts as (as.length : Int) (j : Int) ts (ts.length : Int) i) (fun k => by
  simp [Z2i, Z53, J3, hv, hu]) (fun k i hi => by
  have h1 : (i : Int) < (ts.length : Int) := by omega
  simp only [zS, Z2i, Z53, h1, Y0 hi, Y2 hi, Yk, Y5 (x := (n : Int) - 1), Y3 hi, Y1 (j := i)];cases decide (-10 <= ts[i] /\ ts[i] <= (n : Int) - 1) <;> simp) (by omega)]
 have e : termsOk n ts = decide (∀ k, k < ts.length -> decide (-10 <= ts.getD k 0 /\ ts.getD k 0 <= (n : Int) - 1) = true) := by
  unfold termsOk;rw [J1b, J2];exact (Y2s (d := (0 : Int)) (p := fun t => decide (-10 <= t /\ t <= (n : Int) - 1))).symm
 rw [e];by_cases h : ∀ k, k < ts.length -> decide (-10 <= ts.getD k 0 /\ ts.getD k 0 <= (n : Int) - 1) = true
 ·grind
 ·grind
theorem Y83 {l : List Rel} {q : Qry} (hl : l.length <= 1048576) (hq : q.2.2.length <= 1048576) (hN : 1048576 < N) : Z3d N l q = some (validQ l q) := by
 obtain ⟨n, as, fr⟩ := q;simp only at hq;unfold Z3d Z8l validQ;rw [Y51 hl hN, J0, Yk, Yk];cases hv : validRels l with
 | false => rfl
 | true =>
  by_cases hn : 0 <= n /\ n <= 4
  ·by_cases ha : 1 <= (as.length : Int) /\ (as.length : Int) <= 3
   ·obtain ⟨n, rfl⟩ : ∃ m : Nat, n = (m : Int) := ⟨n.toNat, by omega⟩;simp only [zS, J1 hn, J1 ha, Jd, Jn];rw [Y9m (by omega) hq hN, J0];cases hfs : validSet n fr with
    | false => grind
    | true =>
     rw [Jc, J3, Bool.and_true];have := loop (fun k (j : Nat) => Z37 N k l (n : Int) as fr (varsOf (as.take j)) as (as.length : Int) (j : Int)) (fun j => j <= as.length /\ ∀ i, i < j -> atomOk l n as i = true) (fun j => as.length - j) (fun o => o = some (atomsOk l n as && allOcc n as)) (fun k j hs => by
      obtain ⟨hj', hok⟩ := hs;simp only [Z37, Z7l];by_cases hj : j < as.length
      ·have e1 : (j : Int) < (as.length : Int) := by omega
       have ea : atomAt as j = as[j] := Y3 hj;have bad : atomOk l n as j = false -> some false = some (atomsOk l n as && allOcc n as) := fun h => by
        have : atomsOk l n as = false := by
         unfold atomsOk;rw [J1q];intro hh;have := hh j hj;rw [h] at this;cases this
        rw [this]; rfl
       simp only [zS, e1, Y0 hj, Y2 hj, Yk, Y5 (x := (l.length : Int) - 1), <- ea];by_cases c1 : 0 <= (atomAt as j).1 /\ (atomAt as j).1 <= (l.length : Int) - 1
       ·obtain ⟨ar1, ar2⟩ := Y3b hv c1;rw [J1 c1, Jc, J3, Yb c1.1 (by omega), grd_true, bneI];rw [show (at_ (⟨#[]⟩, (0, 0)) l (atomAt as j).1).2.1 = arity l (atomAt as j).1 from rfl];by_cases c2 : ((atomAt as j).2.length : Int) = arity l (atomAt as j).1
        ·rw [J1 c2, Jc, J3, Yg (by omega) (by omega) (by omega), grd_true, Jn, Y9p (by rw [Jt]; omega) hN, J0];rw [show ((as.take j).any fun b => decide (b.1 = (atomAt as j).1)) = !newRel as j from by unfold newRel; rw [Bool.not_not]];cases c3 : newRel as j with
         | false =>
          left;exact bad (by unfold atomOk; rw [c3, J1l, J10, J10])
         | true =>
          rw [Jc, J3, Y82 (by omega) (by omega) (Y72 _) hN];cases c4 : termsOk n (atomAt as j).2 with
          | false =>
           left;exact bad (by unfold atomOk; rw [c4, J10, J10, J10])
          | true =>
           right;refine ⟨j + 1, ⟨hj, fun i hi => ?_⟩, by omega, ?_⟩
           ·by_cases e : i = j
            ·subst e;unfold atomOk;rw [J1 c1, J1 c2, c3, c4]; rfl
            ·exact hok i (by omega)
           ·rw [Jf rfl, Y1, Y6b hj]
        ·left;rw [J4 c2, Jz, J7];exact bad (by unfold atomOk; rw [J4 c2, J1l, J10])
       ·left;rw [J4 c1, Jz, J7];exact bad (by unfold atomOk; rw [J4 c1, J1l])
      ·left;have : j = as.length := by omega
       subst this;have hao : atomsOk l n as = true := J1 hok;have ht : ∀ j, j < as.length -> termsOk n (atomAt as j).2 = true := fun j hj => by
        have := hok j hj;unfold atomOk at this;simp at this;exact this.2.2.2
       simp only [zS, Je, J12, hao, Jd, beqI];rw [Y73 (by omega) ht]) N 0 (by omega) ⟨by omega, fun i hi => by omega⟩
     have e0 : varsOf (as.take 0) = [] := by unfold varsOf occB; simp
     simp [e0] at this;exact this
   ·simp [hn, ha]
  ·simp [hn]
def queryFor (d : Db) (q : Qry) : Bool := validDb d && validQ d.1 q
theorem Yr {d : Db} {q : Qry} (h : SmallDb d) (hq : q.2.2.length <= 1048576) (hN : 1048576 < N) : Z0u N d q = some (queryFor d q) := by
 unfold Z0u queryFor;rw [Y16 h hN, J0];cases validDb d with
 | false => rfl
 | true => rw [J7, Y81 h.rels hq hN]; rfl
theorem Y1g {d : Db} {q : Qry} (h : SmallDb d) (hq : q.2.2.length <= 1048576) (hN : 1048576 < N) : Z2u N d q = some (queryFor d q) := by
 unfold Z2u queryFor;rw [Y7h h hN, J0];cases validDb d with
 | false => rfl
 | true => rw [J7, Y83 h.rels hq hN]; rfl
theorem Ys {σ R : Type} (f : Nat -> σ -> Option R) (I : σ -> Prop) (μ : σ -> Nat) (Q : Option R -> Prop) (hstep : ∀ k s, I s -> (∀ s', I s' -> μ s' < μ s -> Q (f k s')) -> Q (f (k + 1) s)) : ∀ (k : Nat) (s : σ), μ s < k -> I s -> Q (f k s)
 | 0, s, hk, hs => by omega
 | k + 1, s, hk, hs => hstep k s hs fun s' h1 h2 => Ys f I μ Q hstep k s' (by omega) h1
def Shp (L : List Nat) (x : List Atm) : Prop := x.map (fun a => a.2.length) = L
theorem Shp.len {L : List Nat} {x : List Atm} (h : Shp L x) : x.length = L.length := by rw [<- h, Jb]
theorem Shp.at {L : List Nat} {x : List Atm} (h : Shp L x) {i : Nat} (hi : i < x.length) : (x[i]).2.length = L[i]'(by rw [<- h.len]; exact hi) := by
 subst h;simp
theorem Shp.set {L : List Nat} {x : List Atm} (h : Shp L x) {i : Nat} (hi : i < x.length) (a : Int) (k : Nat) (v : Int) : Shp L (x.set i (a, (x[i]).2.set k v)) := by
 unfold Shp at h ⊢;rw [List.map_set];subst h;simp;apply List.ext_getElem
 ·simp
 ·grind
abbrev Con := Int × Int × Int × Int × Int × Int × Int
def arOf (d : Db) (r : Int) : Int := (d.1.getD r.toNat (⟨#[]⟩, 0, 0)).2.1
def inR (x a b : Int) : Bool := decide (a <= x /\ x <= b)
def conOk (d : Db) (x : Con) : Bool := inR x.1 0 ((d.1.length : Int) - 1) && (inR x.2.1 0 ((d.1.length : Int) - 1) && (inR x.2.2.1 0 (arOf d x.1 - 1) && (inR x.2.2.2.2.1 0 (arOf d x.1 - 1) && (inR x.2.2.2.1 0 (arOf d x.2.1 - 1) && (inR x.2.2.2.2.2.1 0 (arOf d x.2.1 - 1) && inR x.2.2.2.2.2.2 1 2)))))
def viol (d : Db) (x : Con) (i k : Nat) : Bool := conOk d x && (decide ((factAt d i).1 = x.1) && (decide ((factAt d k).1 = x.2.1) && (decide (at_ 0 (factAt d i).2 x.2.2.1 = at_ 0 (factAt d k).2 x.2.2.2.1) &&
 (if x.2.2.2.2.2.2 = 1 then decide (at_ 0 (factAt d i).2 x.2.2.2.2.1 = at_ 0 (factAt d k).2 x.2.2.2.2.2.1) else decide (at_ 0 (factAt d i).2 x.2.2.2.2.1 < at_ 0 (factAt d k).2 x.2.2.2.2.2.1)))))
theorem Y9q {d : Db} (h : b_Database d) : SmallDb d := ⟨h.1.1, h.2.1, fun f hf => h.2.2 f hf⟩
def vany (d : Db) (l : List Con) (i k : Nat) : Bool := l.any fun x => viol d x i k || viol d x k i
def edge (d : Db) (l : List Con) (i k : Nat) : Bool := sameD d i k || vany d l i k
def edgeP (d : Db) (l : List Con) (i k : Nat) : List (Int × Int) := if edge d l i k then [((i : Int), (k : Int))] else []
def edgeR (d : Db) (l : List Con) (i : Nat) : List (Int × Int) := (List.range' (i + 1) (d.2.length - (i + 1))).flatMap (edgeP d l i)
def edgesOf (d : Db) (l : List Con) : List (Int × Int) := (List.range d.2.length).flatMap (edgeR d l)
theorem Y5g (s : List Int) (v : Int) : (s.any fun x => decide (v = x)) = decide (v ∈ s) := by grind
theorem Y9r {s : List Int} {v : Int} (hs : s.length <= 1048576) (hN : 1048576 < N) : Z1g N s v = some (decide (v ∈ s)) := by
 unfold Z1g Z2x Z71;rw [Ye (d := (0 : Int)) (xs := s) (p := fun x => decide (v = x)) (first (n := s.length) (fun j => decide (v = s.getD j 0)) (fun k i => Z1z N k s v (s.length : Int) i) (fun k => by simp [Z1z, Z3q]) (fun k j hj => ?_) (by omega)), Y5g];have h1 : (j : Int) < (s.length : Int) := by omega
 simp only [zS, Z1z, Z3q, h1, Y0 hj, Y2 hj, Y3 hj, Y1 (j := j), beqI];cases decide (v = s[j]) <;> rfl
theorem Y6n {s : List Int} {v : Int} (hs : s.length <= 1048576) (hN : 1048576 < N) : Z5x N s v = some (decide (v ∈ s)) := by
 unfold Z5x Z0ag;rw [Y9 (n := s.length) (fun j => !decide (s.getD j 0 = v)) (some true) (some false) (fun k i => Z73 N k s v i) (fun k => by simp [Z73, Z8q]) (fun k j hj => ?_) (by omega)]
 ·by_cases h : v ∈ s
  ·rw [J1 h];obtain ⟨j, hj, rfl⟩ := Jk.1 h;rw [Jj (fun h' => by grind)]
  ·grind
 ·have h1 : (j : Int) < (s.length : Int) := by omega
  simp only [zS, Z73, Z8q, h1, Y0 hj, Y2 hj, Y3 hj, Y1 (j := j), beqI];cases decide (s[j] = v) <;> simp
structure Good (n : Int) (c : List Int) : Prop where
 lit : ∀ x ∈ c, x ≠ 0 /\ -n <= x /\ x <= n
 one : c.Pairwise fun x y => x ≠ y /\ x ≠ -y
theorem Y5h : ∀ (n : Nat) (l : List Nat), l.Nodup -> (∀ x ∈ l, 1 <= x /\ x <= n) -> l.length <= n
 | 0, l, _, h => by
  cases l with
  | nil => simp
  | cons x l => have := h x (by simp); omega
 | n + 1, l, hn, h => by
  have := Y5h n (l.erase (n + 1)) (hn.erase _) (fun x hx => by grind);rw [List.length_erase] at this;split at this <;> omega
theorem Good.few {n : Int} {c : List Int} (h0 : 0 <= n) (h : Good n c) : (c.length : Int) <= n := by
 have := Y5h n.toNat (c.map Int.natAbs) (by
  unfold List.Nodup;rw [J18];exact h.one.imp (fun {x y} hxy e => by omega)) (fun x hx => by
  obtain ⟨y, hy, rfl⟩ := J9.1 hx;have := h.lit y hy;omega)
 rw [Jb] at this;omega
def ordE (E : List (Int × Int)) (j : Nat) : Bool := decide (j = 0) || (let a := E.getD j (0, 0); let b := E.getD (j - 1) (0, 0); decide (b.1 < a.1) || (decide (b.1 = a.1) && decide (b.2 < a.2)))
def validE (E : List (Int × Int)) : Bool := decide (∀ j, j < E.length -> ordE E j = true)
def indep (E : List (Int × Int)) (s : List Int) : Bool := E.all fun e => !(decide (e.1 ∈ s) && decide (e.2 ∈ s))
def fitsE (E : List (Int × Int)) (s : List Int) (x : Int) : Bool := !decide (x ∈ s) && indep E (s ++ [x])
def maxI (n : Nat) (E : List (Int × Int)) (s : List Int) : Bool := validE E && (validSet n s && (indep E s && decide (∀ x, x < n -> (!fitsE E s x) = true)))
theorem Y2t {s : List Int} (hs : s.length <= 1000) : Z1v N s = some s := by
 unfold Z1v;rw [J1 (by omega), grd_true]
def walk (n : Nat) (E : List (Int × Int)) : Nat -> List Int -> Nat -> List (List Int)
 | 0, s, x => if maxI n E s then [s] else []
 | m + 1, s, x => (if indep E (s ++ [(x : Int)]) then walk n E m (s ++ [(x : Int)]) (x + 1) else []) ++ walk n E m s (x + 1)
def maxSets (n : Nat) (E : List (Int × Int)) : List (List Int) := if validE E then walk n E n [] 0 else []
def subsets (d : Db) (l : List Con) : List (List Int) := if validDb d then maxSets d.2.length (edgesOf d l) else []
theorem Y5i {S : Nat -> Nat -> Bool} {N : Nat} (hS : Runs S N) : ∀ n, n <= N -> (B S n).flatten = List.range n
 | 0, _ => by simp [B, sts]
 | n + 1, hn => by
  by_cases h : isSt S n = true
  ·rw [Y6x hS h, J1p, Y5i hS n (by omega), J1a]; simp
  ·have hn0 : 0 < n := by
    apply J1k;intro h0;have : n = 0 := by omega
    subst this;apply h;rw [Y6]; intro k hk; omega
   obtain ⟨A, t, e, h1, h2, h3⟩ := Y1b hS (n + 1) (by omega) hn;have e' : sts S n = A ++ [t] := by rw [Ym, Jj h, Jl] at e; exact e
   have ih := Y5i hS n (by omega);rw [Y6y hS h (by omega) e' (h3 n (by omega) (by omega)), J1a, <- ih];unfold B;rw [e'];simp only [Jg, Jy, List.map_nil, J1p, Jv, List.flatten_nil, Jl, J16]
def mx (w : List Int) (m x : Int) : Int := if at_ 0 w x > at_ 0 w m then x else m
def bestB (w b : List Int) : Int := b.foldl (mx w) (at_ 0 b 0)
theorem Y84 {w b : List Int} : ∀ {l : List Int} {m : Int}, m ∈ b -> (∀ x ∈ l, x ∈ b) -> l.foldl (mx w) m ∈ b
 | [], m, hm, _ => hm
 | x :: l, m, hm, h => by
  rw [J1g];refine Y84 ?_ fun y hy => h y (by simp [hy]);unfold mx;split
  ·grind
  ·exact hm
theorem Y8y {b : List Int} (hb : b ≠ []) : at_ 0 b 0 ∈ b := by
 cases b with
 | nil => exact absurd rfl hb
 | cons x b =>
  rw [show at_ 0 (x :: b) 0 = x from Y2 (j := 0) (by simp)]; simp
theorem Y85 {w b : List Int} (hb : b ≠ []) : bestB w b ∈ b := Y84 (Y8y hb) fun x hx => hx
theorem Y2x : ∀ L : List (List Nat), (L.map toI).flatten = toI L.flatten
 | [] => rfl
 | b :: L => by rw [Jy, Jv, Jv, Y1t, Y2x L]
theorem Y1m {d : Db} (hvb : validDb d = true) : (blocksOf d).flatten = toI (List.range d.2.length) := by
 unfold blocksOf;rw [Jf hvb, Y2x, Y5i (runs (Y7 hvb)) _ (Jx _)]
theorem Y5j (n : Nat) : (toI (List.range n)).Pairwise (· < ·) := by
 unfold toI;rw [J18];exact List.Pairwise.imp (fun h => by omega) J1u
def sumN (f : Nat -> Int) : Nat -> Int
 | 0 => 0
 | n + 1 => sumN f n + f n
theorem Y3c (f : Nat -> Int) (m : Nat) : ∀ n, sumN f (m + n) = sumN f m + sumN (fun k => f (m + k)) n
 | 0 => by simp [sumN]
 | n + 1 => by
  have := Y3c f m n;show sumN f (m + n) + f (m + n) = sumN f m + (sumN (fun k => f (m + k)) n + f (m + n));omega
theorem Yj {f g : Nat -> Int} : ∀ {n : Nat}, (∀ k, k < n -> f k = g k) -> sumN f n = sumN g n
 | 0, _ => rfl
 | n + 1, h => by
  simp only [sumN, Yj (n := n) fun k hk => h k (by omega), h n (by omega)]
theorem Y5k (f : Nat -> Int) (c : Int) : ∀ n, sumN (fun k => f k * c) n = sumN f n * c
 | 0 => by simp [sumN]
 | n + 1 => by simp only [sumN, Y5k f c n, Int.add_mul]
theorem Y47 (f g : Nat -> Int) {a : Nat} (ha : 0 < a) : ∀ Q, sumN (fun k => f (k % a) * g (k / a)) (a * Q) = sumN f a * sumN g Q
 | 0 => by simp [sumN]
 | Q + 1 => by
  rw [Nat.mul_succ, Y3c, Y47 f g ha Q];have e : sumN (fun k => f ((a * Q + k) % a) * g ((a * Q + k) / a)) a = sumN f a * g Q := by
   rw [<- Y5k];refine Yj fun k hk => ?_;rw [Nat.mul_add_mod, Nat.mod_eq_of_lt hk, Nat.mul_add_div ha, Nat.div_eq_of_lt hk, Nat.add_zero]
  rw [e];simp only [sumN, Int.mul_add]
theorem Y2e (f : Nat -> Int) : ∀ n, sumN f (n + 1) = f 0 + sumN (fun k => f (k + 1)) n
 | 0 => by simp [sumN]
 | n + 1 => by
  have := Y2e f n;simp only [sumN] at this ⊢;omega
def pw (w : List Int) : List Int -> Int
 | [] => 1
 | x :: l => at_ 0 w x * pw w l
def sw (w : List Int) : List Int -> Int
 | [] => 0
 | x :: l => at_ 0 w x + sw w l
def tw (w : List Int) : List (List Int) -> Int
 | [] => 1
 | b :: L => sw w b * tw w L
def sizeP : List (List Int) -> Nat
 | [] => 1
 | b :: L => b.length * sizeP L
def nth : List (List Int) -> Nat -> List Int
 | [], _ => []
 | c :: C, k => c.getD (k % c.length) 0 :: nth C (k / c.length)
theorem Y86 (w : List Int) : ∀ c : List Int, sumN (fun r => at_ 0 w (c.getD r 0)) c.length = sw w c
 | [] => rfl
 | x :: c => by
  rw [J19, Y2e];simp only [List.getD_cons_zero, List.getD_cons_succ, sw, Y86 w c]
theorem Y2y (w : List Int) : ∀ C : List (List Int), (∀ c ∈ C, c ≠ []) -> sumN (fun k => pw w (nth C k)) (sizeP C) = tw w C
 | [], _ => by simp [sumN, sizeP, nth, pw, tw]
 | c :: C, h => by
  have hc : 0 < c.length := Ju.2 (h c (by simp));have ih := Y2y w C fun x hx => h x (by simp [hx]);simp only [nth, pw, sizeP, tw];rw [Y47 (fun r => at_ 0 w (c.getD r 0)) (fun q => pw w (nth C q)) hc, Y86, ih]
theorem Y2f (w : List Int) : ∀ a b : List Int, pw w (a ++ b) = pw w a * pw w b
 | [], b => by simp [pw]
 | x :: a, b => by simp only [J1m, pw, Y2f w a b, Int.mul_assoc]
theorem Y3r (w : List Int) : ∀ a : List Int, pw w a.reverse = pw w a
 | [] => rfl
 | x :: a => by
  rw [J24, Y2f, Y3r w a];simp only [pw, Int.mul_one];exact J2f _ _
theorem Y48 (w : List Int) : ∀ a b : List (List Int), tw w (a ++ b) = tw w a * tw w b
 | [], b => by simp [tw]
 | x :: a, b => by simp only [J1m, tw, Y48 w a b, Int.mul_assoc]
theorem Y3s (w : List Int) : ∀ a : List (List Int), tw w a.reverse = tw w a
 | [] => rfl
 | x :: a => by
  rw [J24, Y48, Y3s w a];simp only [tw, Int.mul_one];exact J2f _ _
theorem Y2g : ∀ a b : List (List Int), sizeP (a ++ b) = sizeP a * sizeP b
 | [], b => by simp [sizeP]
 | x :: a, b => by simp only [J1m, sizeP, Y2g a b, Nat.mul_assoc]
theorem Yl : ∀ a : List (List Int), sizeP a.reverse = sizeP a
 | [] => rfl
 | x :: a => by
  rw [J24, Y2g, Yl a];simp only [sizeP, Nat.mul_one];exact Nat.mul_comm _ _
def Wts (w l : List Int) : Prop := ∀ x ∈ l, 1 <= at_ 0 w x /\ at_ 0 w x <= 9
theorem Y1x {a b : Int} (ha : 1 <= a) (hb : 1 <= b) : 1 <= a * b := by
 have := Int.mul_le_mul ha hb (by omega) (by omega);omega
theorem Y2h {w : List Int} : ∀ {l : List Int}, Wts w l -> 1 <= pw w l
 | [], _ => J1z 1
 | x :: l, h => Y1x (h x (by simp)).1 (Y2h fun y hy => h y (by simp [hy]))
theorem Y9e {w : List Int} : ∀ {l : List Int}, Wts w l -> pw w l <= ((9 ^ l.length : Nat) : Int)
 | [], _ => by simp [pw]
 | x :: l, h => by
  have h1 := h x (by simp);have h2 := Y9e (l := l) fun y hy => h y (by simp [hy]);have h3 := Y2h (l := l) fun y hy => h y (by simp [hy]);have := Int.mul_le_mul h1.2 h2 (by omega) (by omega);simp only [pw, J19, J21];rw [Nat.mul_comm (9 ^ l.length) 9, J2n];exact this
theorem Y3t {w : List Int} : ∀ {l : List Int}, Wts w l -> (l.length : Int) <= sw w l /\ sw w l <= 9 * (l.length : Int)
 | [], _ => by simp [sw]
 | x :: l, h => by
  have h1 := h x (by simp);have h2 := Y3t (l := l) fun y hy => h y (by simp [hy]);simp only [sw, J19];omega
theorem Y87 : ∀ n : Nat, 9 * n <= 18 ^ n
 | 0 => by decide
 | n + 1 => by
  have := Y87 n;have h1 : 1 <= 18 ^ n := Nat.one_le_pow _ _ (by decide);rw [J21];omega
theorem Y3u {w : List Int} : ∀ {L : List (List Int)}, (∀ b ∈ L, b ≠ []) -> (∀ b ∈ L, Wts w b) -> 1 <= tw w L
 | [], _, _ => J1z 1
 | b :: L, h0, h => by
  have h1 := Y3t (h b (by simp));have : 0 < b.length := Ju.2 (h0 b (by simp));exact Y1x (by omega) (Y3u (fun x hx => h0 x (by simp [hx])) fun x hx => h x (by simp [hx]))
theorem Y74 {w : List Int} : ∀ {L : List (List Int)}, (∀ b ∈ L, b ≠ []) -> (∀ b ∈ L, Wts w b) -> tw w L <= ((18 ^ (L.map List.length).sum : Nat) : Int)
 | [], _, _ => by simp [tw]
 | b :: L, h0, h => by
  have h1 := Y3t (h b (by simp));have h2 := Y74 (L := L) (fun x hx => h0 x (by simp [hx])) fun x hx => h x (by simp [hx]);have h3 := Y3u (L := L) (fun x hx => h0 x (by simp [hx])) fun x hx => h x (by simp [hx]);have h4 := Y87 b.length;have h5 : sw w b <= ((18 ^ b.length : Nat) : Int) := by omega
  have := Int.mul_le_mul h5 h2 (by omega) (by omega);simp only [tw, Jy, J1r];rw [Nat.pow_add, J2n];exact this
theorem Y49 : ∀ {L : List (List Int)}, (∀ b ∈ L, b ≠ []) -> 1 <= sizeP L
 | [], _ => Jx 1
 | b :: L, h0 => by
  have : 0 < b.length := Ju.2 (h0 b (by simp));have h3 := Y49 (L := L) fun x hx => h0 x (by simp [hx]);exact Nat.mul_pos this h3
theorem Y1y : ∀ {L : List (List Int)}, (∀ b ∈ L, b ≠ []) -> sizeP L <= 2 ^ (L.map List.length).sum
 | [], _ => by simp [sizeP]
 | b :: L, h0 => by
  have h2 := Y1y (L := L) fun x hx => h0 x (by simp [hx]);simp only [sizeP, Jy, J1r];rw [Nat.pow_add];exact Nat.mul_le_mul (Nat.le_of_lt Nat.lt_two_pow_self) h2
theorem Y6o {a b : Int} (ha : 0 <= a) (hb : 1 <= b) : a <= a * b := by
 have := Int.mul_le_mul_of_nonneg_left hb ha;omega
theorem Y9s {a b : Nat} (hb : 1 <= b) : a <= a * b := by
 have := Nat.mul_le_mul_left a hb;omega
theorem Y5l {w : List Int} : ∀ {C : List (List Int)} {k : Nat}, (∀ c ∈ C, c ≠ []) -> (∀ c ∈ C, Wts w c) -> pw w (nth C k) <= pw w (C.map (bestB w)) /\ Wts w (nth C k) /\ (nth C k).length = C.length
 | [], k, _, _ => ⟨J1z 1, fun x hx => by simp [nth] at hx, rfl⟩
 | c :: C, k, h0, h => by
  have hc : 0 < c.length := Ju.2 (h0 c (by simp));have hk : k % c.length < c.length := J22 _ hc;obtain ⟨i1, i2, i3⟩ := Y5l (C := C) (k := k / c.length) (fun x hx => h0 x (by simp [hx])) fun x hx => h x (by simp [hx]);have hx : c.getD (k % c.length) 0 ∈ c := by rw [Y3 hk]; exact J5 hk
  have hw := h c (by simp) _ hx;have hb := h c (by simp) _ (Y85 (w := w) (h0 c (by simp)));have key : ∀ (l : List Int) (m : Int), at_ 0 w m <= at_ 0 w (l.foldl (mx w) m) /\ ∀ x ∈ l, at_ 0 w x <= at_ 0 w (l.foldl (mx w) m) := by
   intro l
   induction l with
   | nil => intro m; exact ⟨J1z _, by simp⟩
   | cons y l ih =>
    intro m;obtain ⟨a1, a2⟩ := ih (mx w m y);have a3 : at_ 0 w m <= at_ 0 w (mx w m y) /\ at_ 0 w y <= at_ 0 w (mx w m y) := by
     unfold mx;split <;> omega
    rw [J1g];refine ⟨by omega, fun x hx => ?_⟩;rcases Js.1 hx with rfl | hx
    ·omega
    ·exact a2 x hx
  have hle : at_ 0 w (c.getD (k % c.length) 0) <= at_ 0 w (bestB w c) := (key c _).2 _ hx;have hp := Y2h i2;refine ⟨?_, fun x hx => ?_, by simp [nth, i3]⟩
  ·simp only [nth, pw, Jy];exact Int.mul_le_mul hle i1 (by omega) (by omega)
  ·simp only [nth, Js] at hx;rcases hx with rfl | hx
   ·exact hw
   ·exact i2 x hx
theorem Y4a {w l : List Int} (h : Wts w l) (hin : ∀ x ∈ l, 0 <= x /\ x < (w.length : Int)) (hl : l.length <= 14) (hN : 1048576 < N) : Z1c N N w l 1 0 = some (pw w l) := by
 have hT := Y9e h;have h9 : 9 ^ l.length <= 9 ^ 14 := J13 (by decide) hl;have h10 : (9 : Nat) ^ 14 = 22876792454961 := by decide
 have := loop (fun k (s : Int × Nat) => Z1c N k w l s.1 (s.2 : Int)) (fun s => s.2 <= l.length /\ 1 <= s.1 /\ s.1 * pw w (l.drop s.2) = pw w l) (fun s => l.length - s.2) (fun o => o = some (pw w l)) (fun k s hs => by
  obtain ⟨n, j⟩ := s;obtain ⟨h1, h2, h3⟩ := hs;simp only at h1 h2 h3 ⊢;by_cases hj : j < l.length
  ·right;have e1 : (j : Int) < (l.length : Int) := by omega
   have hm := J5 hj;have i1 := hin _ hm;have i2 := h _ hm;have i3 := Y2h (w := w) (l := l.drop (j + 1)) fun x hx => h x (J1w hx);rw [J8 hj, pw, <- Int.mul_assoc] at h3;have p1 := Y1x h2 i2.1;have p2 := Y6o (a := n * at_ 0 w l[j]) (by omega) i3;have ew : w64 (n * at_ 0 w l[j]) = n * at_ 0 w l[j] := Y5;refine ⟨(n * at_ 0 w l[j], j + 1), ⟨hj, p1, h3⟩, by simp only; omega, ?_⟩;simp only [zS, Z1c, Z3m, e1, Y0 hj, Y2 hj, Yb i1.1 i1.2, ew, Y1 (j := j)]
  ·left;have : j = l.length := by omega
   subst this;rw [J1n, pw, Int.mul_one] at h3;simp only [zS, Z1c, Z3m, Je, h3]) N (1, 0) (by simp only; omega) ⟨by simp, by simp, by simp⟩
 exact this
theorem Y4b (w : List Int) : ∀ a b : List Int, sw w (a ++ b) = sw w a + sw w b
 | [], b => by simp [sw]
 | x :: a, b => by simp only [J1m, sw, Y4b w a b]; omega
theorem Y9t {w : List Int} {b : List (List Int)} {c : List Int} (hb : c.length <= 14) (hw : Wts w c) (hin : ∀ x ∈ c, 0 <= x /\ x < (w.length : Int)) (hN : 1048576 < N) (R : List Int -> Int -> List (List Int) -> Int -> Int -> Option Int) (n t j i : Int) :
  Z1h R N N w n 0 b t j i c (c.length : Int) 0 = R w (w64 (n * sw w c)) b t (w64 (j + 1)) := by
 have := loop (fun k (s : Int × Nat) => Z1h R N k w n s.1 b t j i c (c.length : Int) (s.2 : Int)) (fun s => s.2 <= c.length /\ s.1 = sw w (c.take s.2)) (fun s => c.length - s.2) (fun o => o = R w (w64 (n * sw w c)) b t (w64 (j + 1))) (fun k s hs => by
  obtain ⟨s, q⟩ := s;obtain ⟨h1, h2⟩ := hs;simp only at h1 h2 ⊢;by_cases hq : q < c.length
  ·right;have e1 : (q : Int) < (c.length : Int) := by omega
   have i1 := hin _ (J5 hq);have i2 := Y3t (w := w) (l := c.take (q + 1)) fun x hx => hw x (List.mem_of_mem_take hx);have i3 : (c.take (q + 1)).length <= 14 := by rw [Jt]; omega
   have e2 : sw w (c.take (q + 1)) = s + at_ 0 w c[q] := by
    rw [J6 hq, Y4b, h2];simp [sw]
   have ew : w64 (s + at_ 0 w c[q]) = sw w (c.take (q + 1)) := by rw [<- e2]; exact Y5
   refine ⟨(sw w (c.take (q + 1)), q + 1), ⟨hq, rfl⟩, by simp only; omega, ?_⟩;simp only [zS, Z1h, Z43, e1, Y0 hq, Y2 hq, Yb i1.1 i1.2, ew, Y1 (j := q)]
  ·left;have : q = c.length := by omega
   subst this;rw [J12] at h2;simp only [zS, Z1h, Z43, Je, h2]) N (0, 0) (by simp only; omega) ⟨by simp, by simp [sw]⟩
 exact this
theorem Y9f : (18 : Nat) ^ 14 = 374813367582081024 := by decide
theorem Y9u {w : List Int} {b : List (List Int)} (hbs : (b.map List.length).sum <= 14) (hbl : b.length <= 14) (hb : ∀ x ∈ b, x.length <= 14) (h0 : ∀ x ∈ b, x ≠ []) (hw : ∀ x ∈ b, Wts w x) (hin : ∀ r ∈ b, ∀ x ∈ r, 0 <= x /\ x < (w.length : Int)) (hN : 1048576 < N) : Z15 N N w 1 b (b.length : Int) 0 = some (tw w b) := by
 have hT := Y74 h0 hw;have h18 : 18 ^ (b.map List.length).sum <= 18 ^ 14 := J13 (by decide) hbs;rw [Y9f] at h18;have := loop (fun k (s : Int × Nat) => Z15 N k w s.1 b (b.length : Int) (s.2 : Int)) (fun s => s.2 <= b.length /\ 1 <= s.1 /\ s.1 * tw w (b.drop s.2) = tw w b) (fun s => b.length - s.2) (fun o => o = some (tw w b)) (fun k s hs => by
  obtain ⟨n, j⟩ := s;obtain ⟨h1, h2, h3⟩ := hs;simp only at h1 h2 h3 ⊢;by_cases hj : j < b.length
  ·right;have e1 : (j : Int) < (b.length : Int) := by omega
   have hm := J5 hj;have i2 := Y3t (hw _ hm);have i4 : 0 < (b[j]).length := Ju.2 (h0 _ hm);have i3 := Y3u (w := w) (L := b.drop (j + 1)) (fun x hx => h0 x (J1w hx)) fun x hx => hw x (J1w hx);rw [J8 hj, tw, <- Int.mul_assoc] at h3;have p1 := Y1x (b := sw w b[j]) h2 (by omega);have p2 := Y6o (a := n * sw w b[j]) (by omega) i3;have ew : w64 (n * sw w b[j]) = n * sw w b[j] := Y5;refine ⟨(n * sw w b[j], j + 1), ⟨hj, p1, h3⟩, by simp only; omega, ?_⟩;simp only [zS, Z15, Z44, e1, Y0 hj, Y2 hj];rw [Y9t (hb _ hm) (hw _ hm) (hin _ hm) hN, ew, Y1]
  ·left;have : j = b.length := by omega
   subst this;rw [J1n, tw, Int.mul_one] at h3;simp only [zS, Z15, Z44, Je, h3]) N (1, 0) (by simp only; omega) ⟨by simp, by simp, by simp⟩
 exact this
theorem Ya2 {b : List (List Int)} (hbs : (b.map List.length).sum <= 14) (hbl : b.length <= 14) (h0 : ∀ x ∈ b, x ≠ []) (hN : 1048576 < N) : Z2f N N 1 (toI (b.map List.length)) 0 = some (sizeP b : Int) := by
 have hT := Y1y h0;have h2p : 2 ^ (b.map List.length).sum <= 2 ^ 14 := J13 (by decide) hbs;have hlen : (toI (b.map List.length)).length = b.length := by simp [toI]
 have := loop (fun k (s : Nat × Nat) => Z2f N k (s.1 : Int) (toI (b.map List.length)) (s.2 : Int)) (fun s => s.2 <= b.length /\ s.1 * sizeP (b.drop s.2) = sizeP b) (fun s => b.length - s.2) (fun o => o = some (sizeP b : Int)) (fun k s hs => by
  obtain ⟨n, j⟩ := s;obtain ⟨h1, h3⟩ := hs;simp only at h1 h3 ⊢;by_cases hj : j < b.length
  ·right;have e1 : (j : Int) < ((toI (b.map List.length)).length : Int) := by omega
   have i3 := Y49 (L := b.drop (j + 1)) fun x hx => h0 x (J1w hx);rw [J8 hj, sizeP, <- Nat.mul_assoc] at h3;have p2 := Y9s (a := n * (b[j]).length) i3;have hj2 : j < (toI (b.map List.length)).length := by omega
   have eb : (toI (b.map List.length))[j] = ((b[j]).length : Int) := by simp [toI]
   have ew : w64 ((n : Int) * ((b[j]).length : Int)) = ((n * (b[j]).length : Nat) : Int) := by
    rw [<- J2n];exact Y5
   refine ⟨(n * (b[j]).length, j + 1), ⟨hj, h3⟩, by simp only; omega, ?_⟩;simp only [zS, Z2f, Z52, e1, Y0 hj2, Y2 hj2, eb, ew, Y1 (j := j)]
  ·left;have : j = b.length := by omega
   subst this;rw [J1n, sizeP, Nat.mul_one] at h3;simp only [zS, Z2f, Z52, hlen, Je, h3]) N (1, 0) (by simp only; omega) ⟨by simp, by simp⟩
 exact this
theorem Y88 {l : List Int} (hl : l.length <= 1000) (hs : l.Pairwise (· > ·)) (hN : 1048576 < N) : Z17 N l = some l.reverse := by
 unfold Z17 Z8o;have := loop (fun k (s : Nat) => Z0w N k l (l.take s).reverse (s : Int)) (fun s => s <= l.length) (fun s => l.length - s) (fun o => o = some l.reverse) (fun k s hs' => by
  by_cases hj : s < l.length
  ·right;refine ⟨s + 1, hj, by omega, ?_⟩;have h1 : (s : Int) < (l.length : Int) := by omega
   have hlen : ((l.take s).reverse).length = s := by rw [J2i, Jt]; omega
   have e0 : (l.take (s + 1)).reverse = l[s] :: (l.take s).reverse := by rw [J6 hj]; simp
   have hbig : ∀ q (hq : q < ((l.take s).reverse).length), ((l.take s).reverse)[q] > l[s] := by
    intro q hq;have hm : ((l.take s).reverse)[q] ∈ l.take s := J17.1 (J5 hq);obtain ⟨i, hi, he⟩ := Jk.1 hm;rw [<- he, J26];have hi2 : i < s := by rw [Jt] at hi; omega
    exact Jp.1 hs i s (by omega) hj hi2
   simp only [zS, Z0w, Z56, h1, hlen];rw [e0];generalize (l.take s).reverse = out at *;have := loop (fun q (t : Nat) => Z2d (Z0w N k) N q l out (s : Int) (t : Int)) (fun t => t <= out.length) (fun t => t) (fun o => o = Z0w N k l (l[s] :: out) ((s + 1 : Nat) : Int)) (fun q t ht => by
    by_cases h0 : 0 < t
    ·right;refine ⟨t - 1, by omega, by omega, ?_⟩;have h2 : (t : Int) > 0 := by omega
     have h3 : t - 1 < out.length := by omega
     simp only [zS, Z2d, Z3v, h2, Yc h0 (by omega), Y0 h3, Y0 hj, Y2 h3, Y2 hj, hbig (t - 1) h3]
    ·left;have : t = 0 := by omega
     subst this;have so : subOk 0 0 out.length = true := Yg (by omega) (by omega) (by omega);have so2 : subOk 0 (out.length : Int) out.length = true := Yg (by omega) (by omega) (by omega);have a1 : appOk ([] : List Int) [] 8 = true := rfl;have a2 : appOk ([] : List Int) [l[s]] 8 = true := Y4;have a3 : appOk [l[s]] out 8 = true := Y4;have h2 : ¬ (0 : Int) > 0 := by omega
     simp only [zS, Z2d, Z3v, Int.cast_ofNat_Int, h2, Int.toNat_zero, List.take_zero, List.drop_zero, so, so2, Y0 hj, Y2 hj, a1, a2, a3, J20, J1v, Y1 (j := s)]) N s (by omega) (by omega)
   exact this
  ·left;have : s = l.length := by omega
   subst this;simp [Z0w, Z56]) N 0 (by omega) (by omega)
 exact this
structure Good1 (d : Db) (w : List Int) : Prop where
 vb : validDb d = true
 len : w.length = d.2.length
 few : d.2.length <= 14
 wts : ∀ x, 0 <= x -> x < (d.2.length : Int) -> 1 <= at_ 0 w x /\ at_ 0 w x <= 9
theorem Y11 {d : Db} {w : List Int} (h : validWeights d w = true) : Good1 d w := by
 unfold validWeights at h;simp at h;obtain ⟨h1, h2, h3⟩ := h;refine ⟨h1, h2, (Y7 h1).few, fun x h0 hx => ?_⟩;rw [Y3l h0 (by omega)];exact of_decide_eq_true (Jw.1 h3 _ (J5 _))
structure Blks (n : Nat) (w : List Int) (L : List (List Int)) : Prop where
 ne : ∀ b ∈ L, b ≠ []
 sum : (L.map List.length).sum <= 14
 len : L.length <= 14
 each : ∀ b ∈ L, b.length <= 14
 ins : ∀ b ∈ L, ∀ x ∈ b, 0 <= x /\ x < (n : Int)
 wts : ∀ b ∈ L, Wts w b
 flat : L.flatten.Pairwise (· < ·)
theorem Good1.blks {d : Db} {w : List Int} (h : Good1 d w) : Blks d.2.length w (blocksOf d) := by
 obtain ⟨s1, s2, s3, s4⟩ := Yx h.vb;have hf := h.few;have hin := Y3p h.vb;refine ⟨fun b hb => (Y2c h.vb b hb).1, ?_, by omega, fun b hb => (Y2c h.vb b hb).2, hin, fun b hb x hx => ?_, ?_⟩
 ·show (sizes d).sum <= 14;omega
 ·have := hin b hb x hx;exact h.wts x this.1 this.2
 ·rw [Y1m h.vb]; exact Y5j _
theorem Y26 {d : Db} {w : List Int} (h : SmallDb d) (hg : Good1 d w) (hN : 1048576 < N) : Z1u N d = some (sizeP (blocksOf d) : Int) := by
 have hb := hg.blks;unfold Z1u Z8j;rw [Y16 h hN, J0, hg.vb, Jc, J3, Y7k h hN, J0];exact Ya2 hb.sum hb.len hb.ne hN
theorem Y6p {N : Nat} {L : List (List Int)} (h0 : ∀ b ∈ L, b ≠ []) : ∀ (m f k : Nat) (out : List Int), m < f -> m <= L.length -> out.length + m <= 100 -> k <= 1000000 -> Z4k N f (k : Int) L out ((m : Int) - 1) = (Z17 N (out ++ nth (L.take m).reverse k)).bind fun r => some (r, true)
 | _, 0, _, _, hf, _, _, _ => by omega
 | 0, f + 1, k, out, hf, hm, ho, hk => by
  have h1 : ¬ ((0 : Nat) : Int) - 1 >= 0 := by omega
  simp only [Z4k, Z6v, J4 h1, J3, List.take_zero, List.reverse_nil, nth, Jl]
 | m + 1, f + 1, k, out, hf, hm, ho, hk => by
  have e1 : ((m + 1 : Nat) : Int) - 1 = (m : Int) := by omega
  have hj : m < L.length := by omega
  have hc : 0 < (L[m]).length := Ju.2 (h0 _ (J5 hj));have hz : ((L[m]).length : Int) ≠ 0 := by omega
  have hq : k % (L[m]).length < (L[m]).length := J22 _ hc;have em : (k : Int).tmod ((L[m]).length : Int) = ((k % (L[m]).length : Nat) : Int) := rfl;have ed : (k : Int).tdiv ((L[m]).length : Int) = ((k / (L[m]).length : Nat) : Int) := rfl;have hd : k / (L[m]).length <= k := Nat.div_le_self _ _;have hd0 : (0 : Int) <= ((k / (L[m]).length : Nat) : Int) := Int.natCast_nonneg _;have hd1 : ((k / (L[m]).length : Nat) : Int) <= (k : Int) := Int.ofNat_le.2 hd;have h1 : (m : Int) >= 0 := by omega
  have e2 : (L.take (m + 1)).reverse = L[m] :: (L.take m).reverse := by simp_all
  simp only [zS, Z4k, Z6v, e1, J1 h1, Y0 hj, Y2 hj, Y14 hz, em, ed, Y0 hq, Y2 hq];rw [Y4, grd_true, Y5 (x := ((k / (L[m]).length : Nat) : Int)), Y5 (x := (m : Int) - 1), Y6p h0 m f _ _ (by omega) (by omega) (by simp; omega) (by omega), e2];simp only [nth, Y3 hq, J16, J1v]
theorem Y45 : ∀ {C : List (List Int)} {k : Nat}, (∀ c ∈ C, c ≠ []) -> ∀ y ∈ nth C k, ∃ c ∈ C, y ∈ c
 | [], k, _, y, hy => by simp [nth] at hy
 | c :: C, k, h0, y, hy => by
  have hc : 0 < c.length := Ju.2 (h0 c (by simp));have hk : k % c.length < c.length := J22 _ hc;simp only [nth, Js] at hy;rcases hy with rfl | hy
  ·simp_all
  ·obtain ⟨c', h1, h2⟩ := Y45 (C := C) (fun x hx => h0 x (by simp [hx])) y hy;exact ⟨c', by simp [h1], h2⟩
theorem Y1z : ∀ {C : List (List Int)} {k : Nat}, (∀ c ∈ C, c ≠ []) -> C.Pairwise (fun b c => ∀ x ∈ b, ∀ y ∈ c, x > y) -> (nth C k).Pairwise (· > ·)
 | [], k, _, _ => by simp [nth]
 | c :: C, k, h0, hp => by
  have hc : 0 < c.length := Ju.2 (h0 c (by simp));have hk : k % c.length < c.length := J22 _ hc;have h1 : ∀ x ∈ C, x ≠ [] := fun x hx => h0 x (by simp [hx]);rw [J1e] at hp;simp only [nth, J1e];refine ⟨fun y hy => ?_, Y1z h1 hp.2⟩;obtain ⟨c', h2, h3⟩ := Y45 h1 y hy;rw [Y3 hk];exact hp.1 c' h2 _ (J5 hk) y h3
theorem Blks.rev {n : Nat} {w : List Int} {L : List (List Int)} (h : Blks n w L) : (∀ c ∈ L.reverse, c ≠ []) /\ L.reverse.Pairwise (fun b c => ∀ x ∈ b, ∀ y ∈ c, x > y) := by
 refine ⟨fun c hc => h.ne c (J17.1 hc), ?_⟩;rw [List.pairwise_reverse];refine ((List.pairwise_flatten.1 h.flat).2).imp fun h1 x hx y hy => ?_;exact h1 y hy x hx
def repN (L : List (List Int)) (k : Nat) : List Int := (nth L.reverse k).reverse
theorem nthV {d : Db} {w : List Int} (h : SmallDb d) (hg : Good1 d w) (hN : 1048576 < N) {k : Nat} (hk : k < sizeP (blocksOf d)) : Z4u N d k = some (repN (blocksOf d) k, true) := by
 have hb := hg.blks;have hs := Y1y hb.ne;have h2p : 2 ^ ((blocksOf d).map List.length).sum <= 2 ^ 14 := J13 (by decide) hb.sum;unfold Z4u Z9c;rw [Y26 h hg hN, J0, Y5, l1In, J0, J1 (by omega), Jc, J3, Yi h hN, J0];have hl := hb.len;have := Y6p (N := N) hb.ne (blocksOf d).length N k [] (by omega) (Jx _) (by simp; omega) (by omega);rw [Y5, this, J12, J20];have hlen := (Y5l (w := w) (k := k) hb.rev.1 fun c hc => hb.wts c (J17.1 hc)).2.2;rw [Y88 (by grind) (Y1z hb.rev.1 hb.rev.2) hN];rfl
theorem Y2z {n : Nat} {l : List Int} (hs : l.Pairwise (· < ·)) (hin : ∀ x ∈ l, 0 <= x /\ x < (n : Int)) : validSet n l = true := by
 unfold validSet;rw [J2];intro j hj;have h1 := hin _ (J5 hj);rw [Ja, J2, Y3 hj];refine ⟨by omega, ?_⟩;by_cases h0 : j = 0
 ·simp [h0]
 ·have h4 : j - 1 < l.length := by omega
  rw [Y3 h4, J1 (Jp.1 hs (j - 1) j h4 hj (by omega)), Bool.or_true]
theorem Y89 {d : Db} {w : List Int} (h : SmallDb d) (hv : validWeights d w = true) (hN : 1048576 < N) : Z1r N d w = some (tw w (blocksOf d)) := by
 have hg := Y11 hv;have hb := hg.blks;have hlen := hg.len;have hf := hg.few;unfold Z1r Z79;rw [Y10 h (by omega) hN, J0, hv, Jc, J3, Y42 h hg.vb hN, J0];exact Y9u hb.sum hb.len hb.each hb.ne hb.wts (fun r hr x hx => by rw [hlen]; exact hb.ins r hr x hx) hN
theorem Y75 (S : Nat -> Nat -> Bool) (n : Nat) : (sts S n).Pairwise (· < ·) := J2d _ (J1u)
theorem Y9v {S : Nat -> Nat -> Bool} {n : Nat} (hS : Runs S n) : (B S n).Pairwise (fun b c => ∀ x ∈ b, ∀ y ∈ c, S y x = false) := by
 unfold B;rw [J18];refine (Y75 S n).imp_of_mem fun {s t} hs ht hlt x hx y hy => ?_;have h1 : S s x = true := (Jm.1 hx).2;have h2 : S t y = true := (Jm.1 hy).2;rw [J1i];intro h3;have h4 := hS.trans _ _ _ (hS.trans _ _ _ h2 h3) (hS.symm _ _ h1);rw [Y6.1 (Y1o.1 ht).2 s hlt] at h4;simp at h4
def subDb (d : Db) (l : List Int) : Db := (d.1, l.map fun x => factAt d x.toNat)
theorem Y6q {d : Db} {l : List Int} (h : SmallDb d) (hvb : validDb d = true) (hs : l.Pairwise (· < ·)) (hin : ∀ x ∈ l, 0 <= x /\ x < (d.2.length : Int)) (hl : l.length <= 14) (hN : 1048576 < N) : Z1q N d l = some (subDb d l, true) := by
 have hr := h.rels;unfold Z1q Z8w;rw [Y16 h hN, J0, hvb, Jc, J3, Y6l h (by omega) hN, J0, Y2z hs hin, Jc, J3, Y4, grd_true];have := loop (fun k (s : Nat) => Z4r N k l d.1 d.2 [] [] d.1 ((l.take s).map fun x => factAt d x.toNat) (s : Int)) (fun s => s <= l.length) (fun s => l.length - s) (fun o => o = some (subDb d l, true)) (fun k j hj' => by
  simp only [Z4r, Z7z];by_cases hj : j < l.length
  ·right;refine ⟨j + 1, hj, by omega, ?_⟩;have h1 : (j : Int) < (l.length : Int) := by omega
   have h2 := hin _ (J5 hj);have h3 : (l[j]).toNat < d.2.length := by omega
   have e : at_ (0, []) d.2 l[j] = factAt d (l[j]).toNat := by
    have := Yw h3
    rwa [show (((l[j]).toNat : Nat) : Int) = l[j] by omega] at this
   have h4 := Yh h h3;simp only [zS, h1, Y0 hj, Y2 hj, Yb h2.1 h2.2, e];rw [Y4, grd_true, Y4, grd_true, Y1, J6 hj, Jg];rfl
  ·left;have h1 : ¬ (j : Int) < (l.length : Int) := by omega
   simp only [zS, h1];rw [J1d (by omega)];rfl) N 0 (by omega) (by omega)
 exact this
theorem Ya {d : Db} {l : List Int} {j : Nat} (hj : j < l.length) : factAt (subDb d l) j = factAt d (l[j]).toNat := by
 show ((l.map fun x => factAt d x.toNat).getD j (0, [])) = _;rw [Y3 (by simp; exact hj), List.getElem_map]
theorem Y2i {d : Db} {l : List Int} (hvb : validDb d = true) (hs : l.Pairwise (· < ·)) (hin : ∀ x ∈ l, 0 <= x /\ x < (d.2.length : Int)) (hl : l.length <= 14) : validDb (subDb d l) = true := by
 have hv := Y7 hvb;have hlen : (subDb d l).2.length = l.length := by simp [subDb]
 unfold validDb;rw [Ja, Ja, J2, J2];refine ⟨hv.rels, by omega, fun j hj => ?_⟩;have hj2 : j < l.length := by omega
 have h1 := hin _ (J5 hj2);rw [Ya hj2, Ja];refine ⟨hv.fact _ (by omega), ?_⟩;by_cases h0 : j = 0
 ·simp [h0]
 ·have h4 : j - 1 < l.length := by omega
  have h5 := Jp.1 hs (j - 1) j h4 hj2 (by omega);have h6 := hin _ (J5 h4);rw [Ya h4, J1 (hv.lt _ _ (by omega) (by omega)), Bool.or_true]
def picks : List (List Int) -> List Int -> Prop
 | [], [] => True
 | b :: L, x :: r => x ∈ b /\ picks L r
 | _, _ => False
theorem Y2j : ∀ {L : List (List Int)} {r : List Int}, picks L r -> (∀ x ∈ r, ∃ b ∈ L, x ∈ b) /\ ∀ b ∈ L, ∃ x ∈ r, x ∈ b
 | [], [], _ => by simp
 | [], _ :: _, h => h.elim
 | _ :: _, [], h => h.elim
 | c :: L, z :: r, h => by
  obtain ⟨h1, h2⟩ := Y2j h.2;constructor
  ·intro x hx;rcases Js.1 hx with e | hx
   ·exact ⟨c, by simp, e ▸ h.1⟩
   ·obtain ⟨b, k1, k2⟩ := h1 x hx;exact ⟨b, by simp [k1], k2⟩
  ·intro b hb;rcases Js.1 hb with e | hb
   ·exact ⟨z, by simp, e ▸ h.1⟩
   ·obtain ⟨x, k1, k2⟩ := h2 b hb;exact ⟨x, by simp [k1], k2⟩
def Ordd (L : List (List Int)) : Prop := L.Pairwise fun b c => ∀ x ∈ b, ∀ y ∈ c, x < y
structure Parts (n : Nat) (S : Nat -> Nat -> Bool) (L : List (List Int)) : Prop where
 ne : ∀ b ∈ L, b ≠ []
 ins : ∀ b ∈ L, ∀ x ∈ b, 0 <= x /\ x < (n : Int)
 ord : Ordd L
 cover : ∀ x : Int, 0 <= x -> x < (n : Int) -> ∃ b ∈ L, x ∈ b
 same : ∀ b ∈ L, ∀ x ∈ b, ∀ y ∈ b, S x.toNat y.toNat = true
 apart : L.Pairwise fun b c => ∀ x ∈ b, ∀ y ∈ c, S y.toNat x.toNat = false
 symm : ∀ i k, S i k = true -> S k i = true
def sumX (f : Int -> Int) : List Int -> Int
 | [] => 0
 | x :: l => f x + sumX f l
def sumC : List (List Int) -> (List Int -> Int) -> Int
 | [], g => g []
 | b :: C, g => sumC C fun r => sumX (fun x => g (x :: r)) b
theorem Yt {f g : Int -> Int} : ∀ {l : List Int}, (∀ x ∈ l, f x = g x) -> sumX f l = sumX g l
 | [], _ => rfl
 | x :: l, h => by simp only [sumX]; rw [h x (by simp), Yt fun y hy => h y (by simp [hy])]
theorem Y5m {f : Int -> Int} {c : Int} : ∀ {l : List Int}, sumX (fun x => c * f x) l = c * sumX f l
 | [] => by simp [sumX]
 | x :: l => by simp only [sumX]; rw [Y5m, Int.mul_add]
theorem Y5n {f g : Int -> Int} : ∀ {l : List Int}, sumX (fun x => f x + g x) l = sumX f l + sumX g l
 | [] => rfl
 | x :: l => by simp only [sumX]; rw [Y5n]; omega
theorem Y4c : ∀ {l : List Int}, sumX (fun _ => 0) l = 0
 | [] => rfl
 | x :: l => by simp only [sumX]; rw [Y4c]; rfl
theorem Y4d {f : Int -> Int -> Int} : ∀ {a b : List Int}, sumX (fun x => sumX (fun y => f x y) b) a = sumX (fun y => sumX (fun x => f x y) a) b
 | [], b => by simp only [sumX]; rw [Y4c]
 | x :: a, b => by
  simp only [sumX];rw [Y4d, <- Y5n]
theorem Y5o {f : Int -> Int} {k : Int -> Int} : ∀ {l : List Int}, sumX f (l.map k) = sumX (fun x => f (k x)) l
 | [] => rfl
 | x :: l => by simp only [Jy, sumX]; rw [Y5o]
theorem Y8a (f : Int -> Int) : ∀ c : List Int, sumN (fun r => f (c.getD r 0)) c.length = sumX f c
 | [] => rfl
 | x :: c => by
  rw [J19, Y2e];simp only [List.getD_cons_zero, List.getD_cons_succ, sumX, Y8a f c]
theorem Y5p (F : Nat -> Nat -> Int) {a : Nat} (ha : 0 < a) : ∀ Q, sumN (fun k => F (k % a) (k / a)) (a * Q) = sumN (fun j => sumN (fun i => F i j) a) Q
 | 0 => by simp [sumN]
 | Q + 1 => by
  rw [Nat.mul_succ, Y3c, Y5p F ha Q];show _ = sumN (fun j => sumN (fun i => F i j) a) Q + sumN (fun i => F i Q) a;congr 1;refine Yj fun k hk => ?_;rw [Nat.mul_add_mod, Nat.mod_eq_of_lt hk, Nat.mul_add_div ha, Nat.div_eq_of_lt hk, Nat.add_zero]
theorem Y5q : ∀ {C : List (List Int)} {g : List Int -> Int}, (∀ c ∈ C, c ≠ []) -> sumN (fun k => g (nth C k)) (sizeP C) = sumC C g
 | [], g, _ => by simp [sumN, sizeP, nth, sumC]
 | c :: C, g, h => by
  have h0 : 0 < c.length := Ju.2 (h c (by simp));show sumN (fun k => g (c.getD (k % c.length) 0 :: nth C (k / c.length))) (c.length * sizeP C) = _;rw [Y5p (fun i j => g (c.getD i 0 :: nth C j)) h0];simp only [sumC];rw [<- Y5q fun x hx => h x (by simp [hx])];refine Yj fun k _ => ?_;exact Y8a (fun x => g (x :: nth C k)) c
theorem Y20 : ∀ {C : List (List Int)} {g g' : List Int -> Int}, (∀ r, picks C r -> g r = g' r) -> sumC C g = sumC C g'
 | [], g, g', h => h [] trivial
 | c :: C, g, g', h => by
  simp only [sumC];exact Y20 fun r hr => Yt fun x hx => h (x :: r) ⟨hx, hr⟩
theorem Y3d {c : Int} : ∀ {C : List (List Int)} {g : List Int -> Int}, sumC C (fun r => c * g r) = c * sumC C g
 | [], g => rfl
 | b :: C, g => by
  simp only [sumC, Y5m];rw [Y3d]
theorem Y30 : ∀ {A B : List (List Int)} {g : List Int -> Int}, sumC (A ++ B) g = sumC B fun s => sumC A fun r => g (r ++ s)
 | [], B, g => rfl
 | a :: A, B, g => by
  simp only [J1m, sumC];rw [Y30]
def Unord (g : List Int -> Int) : Prop := ∀ r s : List Int, r.Perm s -> g r = g s
theorem Y2k {A B : List (List Int)} (h : A.Perm B) : ∀ {g : List Int -> Int}, Unord g -> sumC A g = sumC B g := by
 induction h with
 | nil => intro g _; rfl
 | cons b _ ih =>
  intro g hg;simp only [sumC];exact ih fun r s hrs => Yt fun x _ => hg _ _ (hrs.cons x)
 | swap a b l =>
  intro g hg;simp only [sumC];congr 1;funext r;rw [Y4d];refine Yt fun x _ => Yt fun y _ => hg _ _ (List.Perm.swap ..)
 | trans _ _ ih1 ih2 => intro g hg; rw [ih1 hg, ih2 hg]
theorem Y5r {f : Int -> Int} : ∀ {C : List (List Int)} {g : List Int -> Int}, sumC (C.map (List.map f)) g = sumC C fun r => g (r.map f)
 | [], g => rfl
 | c :: C, g => by
  simp only [Jy, sumC];rw [Y5r];congr 1;funext r;rw [Y5o]
theorem Y76 {A B : List (List Int)} {g : List Int -> Int} (h : ∀ r s, picks A r -> picks B s -> g (r ++ s) = g r * g s) : sumC (A ++ B) g = sumC A g * sumC B g := by
 rw [Y30];rw [Y20 (g' := fun s => sumC A g * g s) fun s hs => ?_, Y3d];rw [Y20 (g' := fun r => g s * g r) fun r hr => by rw [h r s hr hs, J2f], Y3d, J2f]
def blkAt (L : List (List Int)) (I : List Nat) : List (List Int) := I.map fun k => L.getD k []
def ofMark (mk : Nat -> Nat) (n i : Nat) : List Nat := (List.range n).filter fun k => decide (mk k = i)
def below (mk : Nat -> Nat) (n m : Nat) : List Nat := (List.range n).filter fun k => decide (mk k < m)
def prodN (f : Nat -> Int) : Nat -> Int
 | 0 => 1
 | n + 1 => prodN f n * f n
theorem Y4e (L : List (List Int)) : blkAt L (List.range L.length) = L := by
 unfold blkAt;apply List.ext_getElem
 ·simp
 ·intro n h1 h2;rw [List.getElem_map, List.getElem_range, Y3 h2]
theorem Y77 (mk : Nat -> Nat) (n m : Nat) : (below mk n m ++ ofMark mk n m).Perm (below mk n (m + 1)) := by
 have h := List.filter_append_perm (fun k => decide (mk k < m)) (below mk n (m + 1));have e1 : (below mk n (m + 1)).filter (fun k => decide (mk k < m)) = below mk n m := by
  unfold below;rw [List.filter_filter];refine List.filter_congr fun k _ => ?_;rw [J1b, Ja, J2, J2];omega
 have e2 : (below mk n (m + 1)).filter (fun k => !decide (mk k < m)) = ofMark mk n m := by
  unfold below ofMark;rw [List.filter_filter];refine List.filter_congr fun k _ => ?_;rw [J1b, Ja, J2k, J1q, J2, J2];omega
 rw [e1, e2] at h;exact h
theorem Y21 {L : List (List Int)} {mk : Nat -> Nat} {n : Nat} {g : List Int -> Int} (hg : Unord g) (h0 : g [] = 1) (h : ∀ I J : List Nat, (∀ i ∈ I, i < n) -> (∀ j ∈ J, j < n) -> (∀ i ∈ I, ∀ j ∈ J, mk i ≠ mk j) -> ∀ r s, picks (blkAt L I) r -> picks (blkAt L J) s -> g (r ++ s) = g r * g s) : ∀ m, sumC (blkAt L (below mk n m)) g = prodN (fun i => sumC (blkAt L (ofMark mk n i)) g) m
 | 0 => by
  have : below mk n 0 = [] := by
   unfold below;rw [J27];simp
  rw [this];exact h0
 | m + 1 => by
  have hp : (blkAt L (below mk n m) ++ blkAt L (ofMark mk n m)).Perm (blkAt L (below mk n (m + 1))) := by
   have := (Y77 mk n m).map fun k => L.getD k [];rw [Jg] at this;exact this
  rw [<- Y2k hp hg, Y76, Y21 hg h0 h m]
  ·rfl
  ·refine h _ _ (fun i hi => ?_) (fun j hj => ?_) fun i hi j hj => ?_
   ·exact Ji.1 (Jm.1 hi).1
   ·exact Ji.1 (Jm.1 hj).1
   ·have h1 := (Jm.1 hi).2;have h2 := (Jm.1 hj).2;rw [J2] at h1 h2;omega
theorem Y78 {L : List (List Int)} {mk : Nat -> Nat} {g : List Int -> Int} (hg : Unord g) (h0 : g [] = 1) (hm : ∀ k, k < L.length -> mk k < L.length) (h : ∀ I J : List Nat, (∀ i ∈ I, i < L.length) -> (∀ j ∈ J, j < L.length) -> (∀ i ∈ I, ∀ j ∈ J, mk i ≠ mk j) -> ∀ r s, picks (blkAt L I) r -> picks (blkAt L J) s -> g (r ++ s) = g r * g s) : sumC L g = prodN (fun i => sumC (blkAt L (ofMark mk L.length i)) g) L.length := by
 rw [<- Y21 hg h0 h L.length];have : below mk L.length L.length = List.range L.length := by
  unfold below;rw [List.filter_eq_self];intro k hk;rw [J2];exact hm k (Ji.1 hk)
 rw [this, Y4e]
def uni : List Int -> List Int -> List Int -> Option (List Int)
 | [], _, x => some x
 | _ :: _, [], _ => none
 | t :: ts, w :: ws, x => if t < 0 then (if -1 - t = w then uni ts ws x else none)
  else if x.getD t.toNat 0 >= 0 then (if x.getD t.toNat 0 = w then uni ts ws x else none)
  else uni ts ws (x.set t.toNat w)
theorem Y2u : ∀ {ts ws x y : List Int}, uni ts ws x = some y -> y.length = x.length
 | [], _, x, y, h => by simp only [uni, J15] at h; rw [h]
 | _ :: _, [], _, _, h => by simp [uni] at h
 | t :: ts, w :: ws, x, y, h => by
  simp only [uni] at h;split at h
  ·split at h
   ·exact Y2u h
   ·cases h
  ·split at h
   ·split at h
    ·exact Y2u h
    ·cases h
   ·have := Y2u h
    rwa [J1t] at this
theorem Y8z {x : List Int} {t : Nat} (h : t < x.length) {w : Int} (hw : x.getD t 0 = w) : x.set t w = x := by
 rw [Y3 h] at hw;rw [<- hw];exact List.set_getElem_self h
theorem Y2v {N n : Nat} {a2 f2 : Int} {ts ws : List Int} (hts : ts.length <= 3) (hl : ts.length = ws.length) (hn : n <= 4) (ht : termsOk n ts = true) (hN : 1048576 < N) : ∀ (f q : Nat) (x : List Int), ts.length - q < f -> q <= ts.length -> x.length = n -> ∃ y, Z76 N f a2 ts f2 ws x (q : Int) = some (y, (uni (ts.drop q) (ws.drop q) x).isSome) /\ ∀ z, uni (ts.drop q) (ws.drop q) x = some z -> y = z
 | 0, q, x, hf, _, _ => by omega
 | f + 1, q, x, hf, hq', hx => by
  simp only [Z76, Z95];by_cases hq : q < ts.length
  ·have e1 : (q : Int) < (ts.length : Int) := by omega
   have hqw : q < ws.length := by omega
   have hb := of_decide_eq_true (Jw.1 ht _ (J5 hq));rw [J8 hq, J8 hqw];simp only [zS, e1, Y0 hq, Y2 hq, Y0 hqw, Y2 hqw, Y1 (j := q), uni, bneI];by_cases h0 : ts[q] < 0
   ·rw [J1 h0, J7, Jf h0, Y5];by_cases h1 : -1 - ts[q] = ws[q]
    ·rw [J1 h1, Jc, J3, Jf h1];exact Y2v hts hl hn ht hN f (q + 1) x (by omega) hq hx
    ·rw [J4 h1, Jz, J7, Jj h1];exact ⟨x, rfl, fun z hz => by cases hz⟩
   ·obtain ⟨t, e⟩ : ∃ t : Nat, ts[q] = (t : Int) := ⟨ts[q].toNat, by omega⟩;have htx : t < x.length := by omega
    rw [J4 h0, J3, Jj h0, e, Y0 htx, grd_true, grd_true, Jn, Y2 htx, Y3 htx];by_cases h1 : x[t] >= 0
    ·rw [J1 h1, J7, Jf h1];by_cases h2 : x[t] = ws[q]
     ·rw [J1 h2, Jc, J3, Jf h2, grd_true, grd_true, letv_eq, Y8z htx (by rw [Y3 htx]; exact h2)];exact Y2v hts hl hn ht hN f (q + 1) x (by omega) hq hx
     ·rw [J4 h2, Jz, J7, Jj h2];exact ⟨x, rfl, fun z hz => by cases hz⟩
    ·rw [J4 h1, J3, Jj h1, grd_true, letv_eq];exact Y2v hts hl hn ht hN f (q + 1) (x.set t ws[q]) (by omega) hq (by rw [J1t]; exact hx)
  ·have : q = ts.length := by omega
   subst this;simp only [zS, Je, J1n, uni];exact ⟨x, rfl, fun z hz => by cases hz; rfl⟩
theorem Y2w {N n : Nat} {ts ws : List Int} (hts : ts.length <= 3) (hl : ts.length = ws.length) (hn : n <= 4) (ht : termsOk n ts = true) (hN : 1048576 < N) : ∀ (f q : Nat) (x : List Int), ts.length - q < f -> q <= ts.length -> x.length = n -> ∃ y, Z8e N f ws x ts (ts.length : Int) (q : Int) = some (y, (uni (ts.drop q) (ws.drop q) x).isSome) /\ ∀ z, uni (ts.drop q) (ws.drop q) x = some z -> y = z
 | 0, q, x, hf, _, _ => by omega
 | f + 1, q, x, hf, hq', hx => by
  simp only [Z8e, Z9m];by_cases hq : q < ts.length
  ·have e1 : (q : Int) < (ts.length : Int) := by omega
   have hqw : q < ws.length := by omega
   have hb := of_decide_eq_true (Jw.1 ht _ (J5 hq));rw [J8 hq, J8 hqw];simp only [zS, e1, Y0 hq, Y2 hq, Y0 hqw, Y2 hqw, Y1 (j := q), uni, bneI, Z5l, Z4m];by_cases h0 : ts[q] < 0
   ·rw [J4 (show ¬ ts[q] >= 0 by omega), Jz, J7, Jf h0, Y5];by_cases h1 : -1 - ts[q] = ws[q]
    ·rw [J1 h1, Jc, J3, Jf h1];exact Y2w hts hl hn ht hN f (q + 1) x (by omega) hq hx
    ·rw [J4 h1, Jz, J7, Jj h1];exact ⟨[], rfl, fun z hz => by cases hz⟩
   ·obtain ⟨t, e⟩ : ∃ t : Nat, ts[q] = (t : Int) := ⟨ts[q].toNat, by omega⟩;have htx : t < x.length := by omega
    rw [J1 (show ts[q] >= 0 by omega), Jc, J3, Jj h0, e, Y0 htx, grd_true, Jn, Y2 htx, Y3 htx];by_cases h1 : x[t] >= 0
    ·rw [J4 (show ¬ x[t] < 0 by omega), J3, Jf h1, grd_true];by_cases h2 : x[t] = ws[q]
     ·rw [J1 h2, Jc, J3, Jf h2];exact Y2w hts hl hn ht hN f (q + 1) x (by omega) hq hx
     ·rw [J4 h2, Jz, J7, Jj h2];exact ⟨[], rfl, fun z hz => by cases hz⟩
    ·rw [J1 (show x[t] < 0 by omega), J7, Jj h1, grd_true, grd_true, letv_eq];exact Y2w hts hl hn ht hN f (q + 1) (x.set t ws[q]) (by omega) hq (by rw [J1t]; exact hx)
  ·have : q = ts.length := by omega
   subst this;simp only [zS, Je, J1n, uni];exact ⟨x, rfl, fun z hz => by cases hz; rfl⟩
def meetA (a : Atm) (f : Fact) (x : List Int) : Option (List Int) := if f.1 = a.1 then uni a.2 f.2 x else none
def emb (d : Db) (as : List Atm) : Nat -> Nat -> List Int -> List Int -> List (List Int × List Int)
 | 0, _, x, fs => [(x, fs)]
 | m + 1, k, x, fs => (List.range d.2.length).flatMap fun i => match meetA (atomAt as k) (factAt d i) x with
  | some y => emb d as m (k + 1) y (fs ++ [(i : Int)])
  | none => []
theorem Y1p {d : Db} {as : List Atm} (hf : d.2.length <= 14) : ∀ (m k : Nat) (x fs : List Int), (emb d as m k x fs).length <= 14 ^ m
 | 0, k, x, fs => by simp [emb]
 | m + 1, k, x, fs => by
  have := Yy (n := 14 ^ m) (a := List.range d.2.length) (piece := fun i => match meetA (atomAt as k) (factAt d i) x with
   | some y => emb d as m (k + 1) y (fs ++ [(i : Int)])
   | none => []) fun i _ => by
    split
    ·exact Y1p hf m _ _ _
    ·simp
  rw [Jr] at this;show (List.flatMap _ _).length <= _;rw [J21, Nat.mul_comm];exact Jq this (J2g _ hf)
structure QOk (d : Db) (n : Nat) (as : List Atm) : Prop where
 few : d.2.length <= 14
 n4 : n <= 4
 as3 : as.length <= 3
 terms : ∀ k, k < as.length -> termsOk n (atomAt as k).2 = true /\ (atomAt as k).2.length <= 3
 len : ∀ k i, k < as.length -> i < d.2.length -> (factAt d i).1 = (atomAt as k).1 -> (atomAt as k).2.length = (factAt d i).2.length
theorem qOk {d : Db} {q : Qry} (h : queryFor d q = true) : QOk d q.1.toNat q.2.1 := by
 unfold queryFor validQ at h;simp only [Ja, J2] at h;obtain ⟨hvb, hvr, hn, ha, hok, _, _⟩ := h;have hv := Y7 hvb;have hat : ∀ k, k < q.2.1.length -> atomOk d.1 q.1.toNat q.2.1 k = true := of_decide_eq_true hok;refine ⟨hv.few, by omega, by omega, fun k hk => ?_, fun k i hk hi he => ?_⟩
 ·have h1 := hat k hk;unfold atomOk at h1;simp only [Ja, J2] at h1;have h2 := Y3b hvr h1.1;exact ⟨h1.2.2.2, by omega⟩
 ·have h1 := hat k hk;unfold atomOk at h1;simp only [Ja, J2] at h1;have h2 := (Yn hv.rels (hv.fact i hi)).len;rw [he] at h2;have : ((atomAt q.2.1 k).2.length : Int) = ((factAt d i).2.length : Int) := h1.2.1.trans h2.symm;omega
theorem Y90 {N n : Nat} {d : Db} {as : List Atm} (h : QOk d n as) (hN : 1048576 < N) {k i : Nat} (hk : k < as.length) (hi : i < d.2.length) {x : List Int} (hx : x.length = n) : ∃ y, Z6m N (atomAt as k) (factAt d i) x = some (y, (meetA (atomAt as k) (factAt d i) x).isSome) /\ ∀ z, meetA (atomAt as k) (factAt d i) x = some z -> y = z := by
 have hn := h.n4;obtain ⟨t1, t2⟩ := h.terms k hk;unfold Z6m Z9u meetA;rw [Y4, grd_true, bneI];by_cases e : (factAt d i).1 = (atomAt as k).1
 ·have hl := h.len k i hk hi e;have h0 : (((factAt d i).2.length : Int) != ((atomAt as k).2.length : Int)) = false := by simp [hl]
  rw [J1 e, Jc, J3, h0, J3, Jf e];have := Y2v (N := N) (n := n) (a2 := (atomAt as k).1) (f2 := (factAt d i).1) t2 hl hn t1 hN N 0 x (by omega) (by omega) hx;simpa using this
 ·rw [J4 e, Jz, J7, Jj e];exact ⟨x, rfl, fun z hz => by cases hz⟩
theorem p14 {m : Nat} (h : m <= 3) : 14 ^ m <= 2744 := Jq (J13 (by decide) h) (by decide)
theorem Y5s {a : Atm} {f : Fact} {x y : List Int} (h : meetA a f x = some y) : y.length = x.length := by
 unfold meetA at h;split at h
 ·exact Y2u h
 ·cases h
theorem Y91 {d : Db} {as : List Atm} (hf : d.2.length <= 14) (m k : Nat) (x fs : List Int) (j : Nat) (hj : j <= d.2.length) : ((List.range j).flatMap fun i => match meetA (atomAt as k) (factAt d i) x with
  | some y => emb d as m (k + 1) y (fs ++ [(i : Int)])
  | none => []).length <= 14 * 14 ^ m := by
 have := Yy (n := 14 ^ m) (a := List.range j) (piece := fun i => match meetA (atomAt as k) (factAt d i) x with
  | some y => emb d as m (k + 1) y (fs ++ [(i : Int)])
  | none => []) fun i _ => by
   split
   ·exact Y1p hf m _ _ _
   ·simp
 rw [Jr] at this;exact Jq this (J2g _ (by omega))
theorem Y6r {N n : Nat} {d : Db} {q : Qry} (h : QOk d n q.2.1) (hN : 1048576 < N) : ∀ (m f k : Nat) (x fs : List Int), m < f -> k + m = q.2.1.length -> x.length = n -> fs.length = k -> Z34 N f d q k x fs = some (emb d q.2.1 m k x fs)
 | _, 0, _, _, _, hf, _, _, _ => by omega
 | 0, f + 1, k, x, fs, hf, hk, hx, hfs => by
  have h3 := h.as3;have hn := h.n4;obtain rfl : k = q.2.1.length := by omega
  simp only [zS, Z34, Z92, beqI, emb];rw [Y4, Y4];rfl
 | m + 1, f + 1, k, x, fs, hf, hk, hx, hfs => by
  have h3 := h.as3;have hn := h.n4;have hd := h.few;have hne : ¬ (k : Int) = (q.2.1.length : Int) := by omega
  have hkl : k < q.2.1.length := by omega
  have hp := p14 (m := m) (by omega);simp only [Z34, Z92, beqI, J4 hne, J3];have := loop (fun t (j : Nat) => Z77 N (Z34 N f) t (k : Int) x fs d.1 d.2 q.1 q.2.1 q.2.2 ((List.range j).flatMap fun i => match meetA (atomAt q.2.1 k) (factAt d i) x with
    | some y => emb d q.2.1 m (k + 1) y (fs ++ [(i : Int)])
    | none => []) (j : Int)) (fun j => j <= d.2.length) (fun j => d.2.length - j) (fun o => o = some (emb d q.2.1 (m + 1) k x fs)) (fun t j hj' => by
   simp only [Z77, Z96];by_cases hj : j < d.2.length
   ·right;refine ⟨j + 1, hj, by omega, ?_⟩;have e1 : (j : Int) < (d.2.length : Int) := by omega
    have ho := Y91 (as := q.2.1) hd m k x fs j (by omega);obtain ⟨y, c1, c2⟩ := Y90 h hN hkl hj hx;have ea : at_ (0, []) q.2.1 (k : Int) = atomAt q.2.1 k := by rw [Y2 hkl]; exact (Y3 hkl).symm
    have ef : at_ (0, []) d.2 (j : Int) = factAt d j := Yw hj;simp only [zS, e1, Y0 hkl, Y0 hj, ea, ef, c1, Y1 (j := j), Y1 (j := k)];rw [J1a, List.flatMap_append];cases hm : meetA (atomAt q.2.1 k) (factAt d j) x with
    | none =>
     simp only [Option.isSome_none, J3, J1j, J1x, hm, Jl]
    | some z =>
     obtain rfl := c2 z hm;have hl := Y1p (as := q.2.1) hd m (k + 1) y (fs ++ [(j : Int)]);simp only [Option.isSome_some, J7, J1j, J1x, hm, Jl];rw [Y4, grd_true, Y4, grd_true, Y6r h hN m f (k + 1) y (fs ++ [(j : Int)]) (by omega) (by omega) ((Y5s hm).trans hx) (by simp; omega), J0, Y4, grd_true]
   ·left;have : j = d.2.length := by omega
    subst this;simp only [zS, Je];rfl) N 0 (by omega) (by omega)
  exact this
theorem Y92 {N n : Nat} {d : Db} {as : List Atm} (h : QOk d n as) (hN : 1048576 < N) {k i : Nat} (hk : k < as.length) (hi : i < d.2.length) (e : (factAt d i).1 = (atomAt as k).1) {x : List Int} (hx : x.length = n) : ∃ y, Z8a N x (atomAt as k).2 (factAt d i).2 = some (y, (meetA (atomAt as k) (factAt d i) x).isSome) /\ ∀ z, meetA (atomAt as k) (factAt d i) x = some z -> y = z := by
 have hn := h.n4;obtain ⟨t1, t2⟩ := h.terms k hk;have hl := h.len k i hk hi e;unfold Z8a Z0aq meetA;rw [Y2t (by omega), J0, Jf e];have := Y2w (N := N) (n := n) t2 hl hn t1 hN N 0 x (by omega) (by omega) hx;simpa using this
theorem Y6s {N n : Nat} {d : Db} {q : Qry} (h : QOk d n q.2.1) (hN : 1048576 < N) : ∀ (m f k : Nat) (x fs : List Int) (out : List (List Int × List Int)), m < f -> k + m = q.2.1.length -> x.length = n -> fs.length = k -> out.length + 14 ^ m <= 100000 -> Z0r N f x fs q out d q d = some (out ++ emb d q.2.1 m k x fs)
 | _, 0, _, _, _, _, hf, _, _, _, _ => by omega
 | 0, f + 1, k, x, fs, out, hf, hk, hx, hfs, ho => by
  have h3 := h.as3;have hn := h.n4;have e : (fs.length : Int) = (q.2.1.length : Int) := by omega
  simp only [zS, Z0r, Z4g, beqI, J1 e, Y2t (N := N) (s := x) (by omega), Y2t (N := N) (s := fs) (by omega), emb];rw [Y4];rfl
 | m + 1, f + 1, k, x, fs, out, hf, hk, hx, hfs, ho => by
  have h3 := h.as3;have hn := h.n4;have hd := h.few;have hne : ¬ (fs.length : Int) = (q.2.1.length : Int) := by omega
  have hkl : k < q.2.1.length := by omega
  have hfl : fs.length < q.2.1.length := by omega
  have hp := p14 (m := m) (by omega);have ea : at_ (0, []) q.2.1 (fs.length : Int) = atomAt q.2.1 k := by rw [Y2 hfl, hfs.symm]; exact (Y3 hfl).symm
  rw [J21] at ho;simp only [zS, Z0r, Z4g, beqI, J4 hne, Y0 hfl, ea];have := loop (fun t (j : Nat) => Z2v N (Z0r N f) t x fs (out ++ (List.range j).flatMap fun i => match meetA (atomAt q.2.1 k) (factAt d i) x with
    | some y => emb d q.2.1 m (k + 1) y (fs ++ [(i : Int)])
    | none => []) q d (atomAt q.2.1 k).1 (atomAt q.2.1 k).2 d.2 (d.2.length : Int) (j : Int)) (fun j => j <= d.2.length) (fun j => d.2.length - j) (fun o => o = some (out ++ emb d q.2.1 (m + 1) k x fs)) (fun t j hj' => by
   simp only [Z2v, Z5a];by_cases hj : j < d.2.length
   ·right;refine ⟨j + 1, hj, by omega, ?_⟩;have e1 : (j : Int) < (d.2.length : Int) := by omega
    have hm14 : ∀ j, j <= 13 -> j < d.2.length -> ((List.range j).flatMap fun i => match meetA (atomAt q.2.1 k) (factAt d i) x with
      | some y => emb d q.2.1 m (k + 1) y (fs ++ [(i : Int)])
      | none => []).length <= 13 * 14 ^ m := fun j hj13 _ => by
     have := Yy (n := 14 ^ m) (a := List.range j) (piece := fun i => match meetA (atomAt q.2.1 k) (factAt d i) x with
      | some y => emb d q.2.1 m (k + 1) y (fs ++ [(i : Int)])
      | none => []) fun i _ => by
       split
       ·exact Y1p hd m _ _ _
       ·simp
     rw [Jr] at this;exact Jq this (J2g _ hj13)
    have hlen := hm14 j (by omega) hj;have ef : at_ (0, []) d.2 (j : Int) = factAt d j := Yw hj;simp only [zS, e1, Y0 hj, ef, bneI, Y1 (j := j)];rw [J1a, List.flatMap_append];by_cases e : (factAt d j).1 = (atomAt q.2.1 k).1
    ·obtain ⟨y, c1, c2⟩ := Y92 h hN hkl hj e hx;rw [J1 e, Jc, J3, c1, J0];cases hm : meetA (atomAt q.2.1 k) (factAt d j) x with
     | none =>
      simp only [Option.isSome_none, J3, J1j, J1x, hm, Jl]
     | some z =>
      obtain rfl := c2 z hm;simp only [zS, Option.isSome_some, J1j, J1x, hm, Jl, Y2t (N := N) (s := fs) (by omega)];rw [Y4, grd_true, Y6s h hN m f (k + 1) y (fs ++ [(j : Int)]) _ (by omega) (by omega) ((Y5s hm).trans hx) (by simp; omega) (by rw [J11]; omega), J0, J16]
    ·have hm : meetA (atomAt q.2.1 k) (factAt d j) x = none := by unfold meetA; rw [Jj e]
     rw [J4 e, Jz, J7];simp only [J1j, J1x, hm, Jl]
   ·left;have : j = d.2.length := by omega
    subst this;simp only [zS, Je];rfl) N 0 (by omega) (by omega)
  simpa using this
theorem Y93 {N n : Nat} (hn : n <= 4) (hN : 1048576 < N) : Z55 N (n : Int) = some (List.replicate n (-1)) := by
 unfold Z55 Z9t;have := loop (fun k (j : Nat) => Z75 N k (n : Int) (List.replicate j (-1))) (fun j => j <= n) (fun j => n - j) (fun o => o = some (List.replicate n (-1))) (fun k j hj' => by
  simp only [Z75, Z94, J2a];by_cases hj : j < n
  ·right;refine ⟨j + 1, hj, by omega, ?_⟩;have e1 : (j : Int) < (n : Int) := by omega
   rw [J1 e1, J7, Y4 (by omega) (by simp only [J2a, J1f]; omega), grd_true, List.replicate_succ']
  ·left;have : j = n := by omega
   subst this;simp only [zS, Je]) N 0 (by omega) (by omega)
 exact this
theorem Y94 {N n : Nat} (hn : n <= 4) : Z59 N (n : Int) = some (List.replicate n (-1)) := by
 unfold Z59 Z7b;have e : (decide (([-1] : List Int).length = 1) && (decide ((0 : Int) <= (n : Int)) && decide ((n : Int) * 8 <= 140737488355328))) = true := by
  rw [Ja, Ja, J2, J2, J2];exact ⟨rfl, by omega, by omega⟩
 rw [e, grd_true, Jn];rfl
def embs (d : Db) (q : Qry) : List (List Int × List Int) := if queryFor d q then emb d q.2.1 q.2.1.length 0 (List.replicate q.1.toNat (-1)) [] else []
theorem Y95 {d : Db} {q : Qry} (h : SmallDb d) (hq : q.2.2.length <= 1048576) (hN : 1048576 < N) : Z2p N d q = some (embs d q) := by
 unfold Z2p embs;rw [Yr h hq hN, J0];cases hf : queryFor d q with
 | false => rfl
 | true =>
  have ho := qOk hf;have hn := ho.n4;have h3 := ho.as3;have hq0 : 0 <= q.1 := by
   unfold queryFor validQ at hf;simp only [Ja, J2] at hf;exact hf.2.2.1.1
  have e : Z55 N q.1 = some (List.replicate q.1.toNat (-1)) := by
   have := Y93 (N := N) hn hN
   rwa [show ((q.1.toNat : Nat) : Int) = q.1 by omega] at this
  rw [Jc, J3, e, J0, Jf rfl];have := Y6r ho hN q.2.1.length N 0 (List.replicate q.1.toNat (-1)) [] (by omega) (by omega) (by simp) rfl;rw [show ((0 : Nat) : Int) = 0 from rfl] at this;unfold Z7y;rw [this];rfl
theorem Y96 {d : Db} {q : Qry} (h : SmallDb d) (hq : q.2.2.length <= 1048576) (hN : 1048576 < N) : Z2q N d q = some (embs d q) := by
 unfold Z2q embs;rw [Y1g h hq hN, J0];cases hf : queryFor d q with
 | false => rfl
 | true =>
  have ho := qOk hf;have hn := ho.n4;have h3 := ho.as3;have hq0 : 0 <= q.1 := by
   unfold queryFor validQ at hf;simp only [Ja, J2] at hf;exact hf.2.2.1.1
  have e : Z59 N q.1 = some (List.replicate q.1.toNat (-1)) := by
   have := Y94 (N := N) hn
   rwa [show ((q.1.toNat : Nat) : Int) = q.1 by omega] at this
  have hp := p14 h3;rw [Jc, J3, e, J0, Jf rfl];have := Y6s ho hN q.2.1.length N 0 (List.replicate q.1.toNat (-1)) [] [] (by omega) (by omega) (by simp) rfl (by simp only [J2m]; omega);unfold Z2m;rw [this];rfl
theorem Y4f {d : Db} {l : List Int} (h : SmallDb d) (hin : ∀ x ∈ l, 0 <= x /\ x < (d.2.length : Int)) (hl : l.length <= 14) : SmallDb (subDb d l) := ⟨h.rels, by simp [subDb]; omega, fun f hf => by
  obtain ⟨x, hx, rfl⟩ := J9.1 hf;have := hin x hx;exact Yh h (by omega)⟩
def putIn (l : List Int) (x : Int) : Nat -> List Int
 | 0 => x :: l
 | k + 1 => if l.getD k 0 > x then putIn l x k else l.take (k + 1) ++ x :: l.drop (k + 1)
theorem Y12 (l : List Int) (x : Int) : ∀ k, k <= l.length -> ∃ j, j <= k /\ putIn l x k = l.take j ++ x :: l.drop j /\ (∀ i (hi : i < l.length), j <= i -> i < k -> l[i] > x) /\ (0 < j -> ∃ (hj : j - 1 < l.length), ¬ l[j - 1] > x)
 | 0, _ => ⟨0, Jx _, by simp [putIn], fun i hi h1 h2 => by omega, fun h => by omega⟩
 | k + 1, hk => by
  have hk' : k < l.length := by omega
  simp only [putIn, Y3 hk'];by_cases h : l[k] > x
  ·rw [Jf h];obtain ⟨j, h1, h2, h3, h4⟩ := Y12 l x k (by omega);refine ⟨j, by omega, h2, fun i hi g1 g2 => ?_, h4⟩;by_cases e : i = k
   ·subst e; exact h
   ·exact h3 i hi g1 (by omega)
  ·rw [Jj h];exact ⟨k + 1, Jx _, rfl, fun i hi g1 g2 => by omega, fun _ => ⟨by omega, by simpa using h⟩⟩
theorem Y4g {l : List Int} {x y : Int} : y ∈ putIn l x l.length ↔ y = x \/ y ∈ l := by
 obtain ⟨j, _, e, _, _⟩ := Y12 l x l.length (Jx _);rw [e, J2e, Js];have hl : y ∈ l ↔ y ∈ l.take j \/ y ∈ l.drop j := by
  conv => lhs; rw [<- J2b j l]
  rw [J2e]
 rw [hl];constructor
 ·rintro (h | h | h)
  ·exact .inr (.inl h)
  ·exact .inl h
  ·exact .inr (.inr h)
 ·rintro (h | h | h)
  ·exact .inr (.inl h)
  ·exact .inl h
  ·exact .inr (.inr h)
theorem Y4h {l : List Int} {x : Int} : (putIn l x l.length).length = l.length + 1 := by
 obtain ⟨j, hj, e, _, _⟩ := Y12 l x l.length (Jx _);rw [e];simp only [J11, Jt, J19, List.length_drop];omega
def sortI : List Int -> List Int -> List Int
 | [], out => out
 | x :: l, out => sortI l (putIn out x out.length)
theorem Y4i {N k : Nat} {l out : List Int} {s : Nat} (hs : s < l.length) (hl : l.length <= 1000) (ho : out.length <= 1000) : ∀ (f t : Nat), t < f -> t <= out.length -> Z2d (Z0w N k) N f l out (s : Int) (t : Int) = Z0w N k l (putIn out l[s] t) ((s + 1 : Nat) : Int)
 | 0, t, hf, _ => by omega
 | f + 1, 0, hf, ht => by
  have h2 : ¬ ((0 : Nat) : Int) > 0 := by omega
  simp only [zS, Z2d, Z3v, h2, Jn, Y0 hs, Y2 hs];rw [show subOk 0 ((0 : Nat) : Int) out.length = true by simp [subOk], grd_true, Y4, grd_true, Y4, grd_true, show subOk ((0 : Nat) : Int) (out.length : Int) out.length = true by simp [subOk], grd_true, Y4, grd_true, Y1];simp [putIn]
 | f + 1, t + 1, hf, ht => by
  have h2 : ((t + 1 : Nat) : Int) > 0 := by omega
  have h3 : t < out.length := ht;have e1 : w64 (((t + 1 : Nat) : Int) - 1) = (t : Int) := by rw [Y5]; omega
  simp only [zS, Z2d, Z3v, h2, e1, Y0 h3, Y2 h3, Y0 hs, Y2 hs, putIn, Y3 h3, Jn];by_cases h : out[t] > l[s]
  ·rw [J1 h, J7, Jf h];exact Y4i hs hl ho f t (by omega) (by omega)
  ·rw [J4 h, J3, Jj h];rw [show subOk 0 ((t + 1 : Nat) : Int) out.length = true by simp [subOk]; omega, grd_true, Y4, grd_true, Y4, grd_true, show subOk ((t + 1 : Nat) : Int) (out.length : Int) out.length = true by simp [subOk]; omega, grd_true, Y4, grd_true, Y1];simp
theorem Y4j : ∀ (l out : List Int), (sortI l out).length = l.length + out.length
 | [], out => by simp [sortI]
 | x :: l, out => by rw [sortI, Y4j l, Y4h]; simp; omega
theorem Yf {y : Int} : ∀ (l out : List Int), y ∈ sortI l out ↔ y ∈ l \/ y ∈ out
 | [], out => by simp [sortI]
 | x :: l, out => by rw [sortI, Yf l, Y4g, Js, or_left_comm, or_assoc]
theorem Y4k {N : Nat} {l : List Int} (hl : l.length <= 900) (hN : 1048576 < N) : ∀ (f s : Nat) (out : List Int), l.length - s < f -> s <= l.length -> out.length = s -> Z0w N f l out (s : Int) = some (sortI (l.drop s) out)
 | 0, s, out, hf, _, _ => by omega
 | f + 1, s, out, hf, hs, ho => by
  simp only [Z0w, Z56];by_cases h : s < l.length
  ·have h1 : (s : Int) < (l.length : Int) := by omega
   rw [J1 h1, J7, Y4i h (by omega) (by omega) N out.length (by omega) (Jx _), Y4k hl hN f (s + 1) _ (by omega) h (by rw [Y4h, ho]), J8 h, sortI]
  ·have h1 : ¬ (s : Int) < (l.length : Int) := by omega
   rw [J4 h1, J3, List.drop_eq_nil_of_le (by omega), sortI]
theorem Y5t {l : List Int} (hl : l.length <= 900) (hN : 1048576 < N) : Z17 N l = some (sortI l []) := by
 have := Y4k hl hN N 0 [] (by omega) (by omega) rfl;simpa [Z17, Z8o] using this
theorem Y5u {l : List Int} {x : Int} (hs : l.Pairwise (· < ·)) (hx : x ∉ l) : (putIn l x l.length).Pairwise (· < ·) := by
 obtain ⟨j, hj, e, h3, h4⟩ := Y12 l x l.length (Jx _);rw [e];have hsplit : (l.take j ++ l.drop j).Pairwise (· < ·) := by rwa [J2b]
 rw [List.pairwise_append] at hsplit;rw [List.pairwise_append, J1e];have hlt : ∀ a ∈ l.take j, a < x := by
  intro a ha;obtain ⟨i, hi, rfl⟩ := Jk.1 ha;have hi' : i < j := by simp at hi; omega
  obtain ⟨hj', hle⟩ := h4 (by omega);rw [J26];have hne : l[j - 1] ≠ x := fun e => hx (e ▸ J5 hj');have hi2 : i < l.length := by omega
  have : l[i] <= l[j - 1] := by
   by_cases h : i = j - 1
   ·subst h; exact J1z _
   ·have := Jp.1 hs i (j - 1) hi2 hj' (by omega);omega
  omega
 have hgt : ∀ a ∈ l.drop j, x < a := by
  intro a ha;obtain ⟨i, hi, rfl⟩ := Jk.1 ha;rw [List.getElem_drop];have hi2 : j + i < l.length := by simp at hi; omega
  exact h3 (j + i) hi2 (by omega) hi2
 refine ⟨hsplit.1, ⟨hgt, hsplit.2.1⟩, fun a ha b hb => ?_⟩;rcases Js.1 hb with rfl | hb
 ·exact hlt a ha
 ·exact hsplit.2.2 a ha b hb
theorem Yu : ∀ (l out : List Int), l.Nodup -> (∀ x ∈ l, x ∉ out) -> out.Pairwise (· < ·) -> (sortI l out).Pairwise (· < ·)
 | [], out, _, _, hs => hs
 | x :: l, out, hn, hd, hs => by
  rw [List.nodup_cons] at hn;refine Yu l _ hn.2 (fun y hy h => ?_) (Y5u hs (hd x J2j));rcases Y4g.1 h with rfl | h
  ·exact hn.1 hy
  ·exact hd y (J2h _ hy) h
def chain (d : Db) (as : List Atm) : Nat -> List Int -> List Int -> Option (List Int)
 | _, x, [] => some x
 | k, x, g :: gs => match meetA (atomAt as k) (factAt d g.toNat) x with
  | some y => chain d as (k + 1) y gs
  | none => none
theorem Yo {d : Db} {as : List Atm} {e : List Int × List Int} : ∀ (m k : Nat) (x fs : List Int), e ∈ emb d as m k x fs ↔ ∃ gs : List Int, gs.length = m /\ (∀ g ∈ gs, 0 <= g /\ g < (d.2.length : Int)) /\ chain d as k x gs = some e.1 /\ e.2 = fs ++ gs
 | 0, k, x, fs => by
  simp only [emb, List.mem_singleton];constructor
  ·rintro rfl
   exact ⟨[], rfl, by simp, rfl, by simp⟩
  ·rintro ⟨gs, h1, -, h3, h4⟩
   have : gs = [] := J23.1 h1;subst this;simp only [chain, J15] at h3;obtain ⟨a, b⟩ := e;simp only [Jl] at h4;simp only at h3;rw [h3, h4]
 | m + 1, k, x, fs => by
  simp only [emb, List.mem_flatMap, Ji];constructor
  ·rintro ⟨i, hi, he⟩
   split at he
   ·rename_i y hy;obtain ⟨gs, h1, h2, h3, h4⟩ := (Yo m (k + 1) y (fs ++ [(i : Int)])).1 he;refine ⟨(i : Int) :: gs, by simp [h1], fun g hg => ?_, ?_, by rw [h4, J16]; rfl⟩
    ·rcases Js.1 hg with rfl | hg
     ·omega
     ·exact h2 g hg
    ·simp only [chain, Jn, hy];exact h3
   ·cases he
  ·rintro ⟨gs, h1, h2, h3, h4⟩
   match gs with
   | [] => simp at h1
   | g :: gs =>
    have hg := h2 g J2j;refine ⟨g.toNat, by omega, ?_⟩;simp only [chain] at h3;split at h3
    ·rename_i y hy
     try simp only [hy]
     refine (Yo m (k + 1) y _).2 ⟨gs, by simpa using h1, fun g' hg' => h2 g' (J2h _ hg'), h3, ?_⟩;rw [h4, J16, show ((g.toNat : Nat) : Int) = g by omega];rfl
    ·cases h3
theorem Y2l {d : Db} {as : List Atm} : ∀ (gs : List Int) (k : Nat) (x y : List Int), chain d as k x gs = some y -> ∀ j (h : j < gs.length), (factAt d (gs[j]).toNat).1 = (atomAt as (k + j)).1
 | [], k, x, y, _, j, h => by simp at h
 | g :: gs, k, x, y, hc, j, h => by
  simp only [chain] at hc;split at hc
  ·rename_i z hz;cases j with
   | zero =>
    unfold meetA at hz;split at hz
    ·rename_i e; exact e
    ·cases hz
   | succ j =>
    have := Y2l gs (k + 1) z y hc j (by simpa using h);rw [show k + (j + 1) = k + 1 + j by omega];exact this
  ·cases hc
theorem Y2m {d : Db} {as : List Atm} {s : List Int} : ∀ (gs : List Int) (k : Nat) (x : List Int), (∀ g ∈ gs, 0 <= g /\ g < (s.length : Int)) -> chain (subDb d s) as k x gs = chain d as k x (gs.map fun g => s.getD g.toNat 0)
 | [], k, x, _ => rfl
 | g :: gs, k, x, h => by
  have hg := h g J2j;have hj : g.toNat < s.length := by omega
  simp only [chain, Jy, Ya hj, Y3 hj];split
  ·exact Y2m gs _ _ fun g' hg' => h g' (J2h _ hg')
  ·rfl
theorem Y6c {d : Db} {q : Qry} (h : queryFor d q = true) {i j : Nat} (hi : i < j) (hj : j < q.2.1.length) : (atomAt q.2.1 i).1 ≠ (atomAt q.2.1 j).1 := by
 unfold queryFor validQ at h;simp only [Ja, J2] at h;obtain ⟨_, _, _, _, hok, _, _⟩ := h;have h1 : atomOk d.1 q.1.toNat q.2.1 j = true := of_decide_eq_true hok j hj;unfold atomOk at h1;simp only [Ja, J2] at h1;have h2 := h1.2.2.1;unfold newRel at h2;rw [J2k, J25] at h2;intro e;refine h2 (atomAt q.2.1 i) ?_ (J1 e);have hi' : i < q.2.1.length := by omega
 unfold atomAt;rw [Y3 hi'];exact Jk.2 ⟨i, by simp; omega, by rw [J26]⟩
structure EmbOk (d : Db) (e : List Int × List Int) : Prop where
 few : e.2.length <= 3
 ins : ∀ x ∈ e.2, 0 <= x /\ x < (d.2.length : Int)
 apart : ∀ i j (hi : i < j) (hj : j < e.2.length), (factAt d (e.2[i]'(by omega)).toNat).1 ≠ (factAt d (e.2[j]).toNat).1
theorem Y2n {d : Db} {q : Qry} {e : List Int × List Int} (he : e ∈ embs d q) : queryFor d q = true /\ EmbOk d e := by
 unfold embs at he;split at he
 ·rename_i h;obtain ⟨gs, h1, h2, h3, h4⟩ := (Yo _ _ _ _).1 he;rw [J20] at h4;have h5 := (qOk h).as3;obtain ⟨a, b⟩ := e;simp only at h4 h3;subst h4;refine ⟨h, ⟨by simp only; omega, h2, fun i j hi hj => ?_⟩⟩;simp only at hj;have r1 := Y2l b 0 _ _ h3 i (by omega);have r2 := Y2l b 0 _ _ h3 j hj;rw [Nat.zero_add] at r1 r2;simp only;rw [r1, r2];exact Y6c h hi (by omega)
 ·cases he
theorem EmbOk.nodup {d : Db} {e : List Int × List Int} (h : EmbOk d e) : e.2.Nodup := by
 rw [List.Nodup, Jp];intro i j hi hj hij he;exact h.apart i j hij hj (by rw [he])
theorem Y8b {d : Db} {q : Qry} {s : List Int} (hvb : validDb d = true) (hs : s.Pairwise (· < ·)) (hin : ∀ x ∈ s, 0 <= x /\ x < (d.2.length : Int)) (hl : s.length <= 14) : (embs (subDb d s) q).length > 0 ↔ ∃ e ∈ embs d q, ∀ x ∈ e.2, x ∈ s := by
 have hq : queryFor (subDb d s) q = queryFor d q := by
  unfold queryFor;rw [hvb, Y2i hvb hs hin hl];rfl
 have hlen : (subDb d s).2.length = s.length := by simp [subDb]
 unfold embs;rw [hq];by_cases h : queryFor d q = true
 ·rw [Jf h, Jf h];constructor
  ·intro hp;obtain ⟨e, he⟩ := List.exists_mem_of_length_pos hp;obtain ⟨gs, h1, h2, h3, h4⟩ := (Yo _ _ _ _).1 he;rw [hlen] at h2;rw [Y2m gs _ _ h2] at h3;have hm : ∀ g ∈ gs, s.getD g.toNat 0 ∈ s := fun g hg => by
    have := h2 g hg;rw [Y3 (show g.toNat < s.length by omega)];exact J5 _
   refine ⟨(e.1, gs.map fun g => s.getD g.toNat 0), (Yo _ _ _ _).2 ⟨gs.map fun g => s.getD g.toNat 0, by simpa using h1, fun g hg => ?_, h3, by simp⟩, fun x hx => ?_⟩
   ·obtain ⟨g', hg', rfl⟩ := J9.1 hg;exact hin _ (hm g' hg')
   ·obtain ⟨g', hg', rfl⟩ := J9.1 hx;exact hm g' hg'
  ·rintro ⟨e, he, hes⟩
   obtain ⟨gs, h1, h2, h3, h4⟩ := (Yo _ _ _ _).1 he;rw [J20] at h4;rw [h4] at hes;have hidx : ∀ x, x ∈ s -> ∃ j, j < s.length /\ s.getD j 0 = x := fun x hx => by
    obtain ⟨j, hj, e⟩ := Jk.1 hx;exact ⟨j, hj, by rw [Y3 hj, e]⟩
   have hf : ∀ x ∈ gs, (s.idxOf x) < s.length /\ s.getD (s.idxOf x) 0 = x := fun x hx => by
    have := List.idxOf_lt_length_of_mem (hes x hx);exact ⟨this, by rw [Y3 this]; exact List.getElem_idxOf this⟩
   have hmap : (gs.map fun x => ((s.idxOf x : Nat) : Int)).map (fun g => s.getD g.toNat 0) = gs := by
    rw [List.map_map]
    conv => rhs; rw [<- List.map_id gs]
    exact J1o fun x hx => by simpa using (hf x hx).2
   have hr : ∀ g ∈ gs.map (fun x => ((s.idxOf x : Nat) : Int)), 0 <= g /\ g < (s.length : Int) := fun g hg => by
    obtain ⟨x, hx, rfl⟩ := J9.1 hg;have := (hf x hx).1;omega
   refine List.length_pos_of_mem (a := (e.1, gs.map fun x => ((s.idxOf x : Nat) : Int))) ((Yo _ _ _ _).2 ⟨gs.map fun x => ((s.idxOf x : Nat) : Int), by simpa using h1, by rw [hlen]; exact hr, ?_, by simp⟩);rw [Y2m _ _ _ hr, hmap];exact h3
 ·rw [Jj h, Jj h];simp
def cov (d : Db) (q : Qry) (s : List Int) : Bool := (embs d q).any fun e => e.2.all fun x => decide (x ∈ s)
def need (d : Db) (q : Qry) : List (List Int) := (embs d q).map fun e => sortI e.2 []
theorem Y4l {d : Db} {q : Qry} {s : List Int} (hvb : validDb d = true) (hs : s.Pairwise (· < ·)) (hin : ∀ x ∈ s, 0 <= x /\ x < (d.2.length : Int)) (hl : s.length <= 14) : decide (((embs (subDb d s) q).length : Int) > 0) = cov d q s := by
 rw [J1b, J2];unfold cov;simp only [J1c, Jw, J2];rw [show (((embs (subDb d s) q).length : Int) > 0) ↔ (embs (subDb d s) q).length > 0 by omega, Y8b hvb hs hin hl]
theorem Y1h {d : Db} {q : Qry} : (embs d q).length <= 2744 := by
 unfold embs;split
 ·rename_i h;have ho := qOk h;exact Jq (Y1p ho.few _ _ _ _) (p14 ho.as3)
 ·simp
theorem Y1q {d : Db} {q : Qry} {e : List Int × List Int} (he : e ∈ embs d q) : (sortI e.2 []).Pairwise (· < ·) /\ (∀ x ∈ sortI e.2 [], 0 <= x /\ x < (d.2.length : Int)) /\ (sortI e.2 []).length <= 3 := by
 obtain ⟨h, ho⟩ := Y2n he;refine ⟨Yu _ _ ho.nodup (by simp) List.Pairwise.nil, fun x hx => ?_, ?_⟩
 ·rw [Yf] at hx;rcases hx with hx | hx
  ·exact ho.ins x hx
  ·cases hx
 ·have := ho.few;rw [Y4j]; simp; omega
theorem Y79 {d : Db} {e : List Int × List Int} (ho : EmbOk d e) : ∀ x ∈ sortI e.2 [], ∀ y ∈ sortI e.2 [], x ≠ y -> (factAt d x.toNat).1 ≠ (factAt d y.toNat).1 := by
 intro x hx y hy hxy;rw [Yf] at hx hy;have hx := hx.resolve_right (by simp);have hy := hy.resolve_right (by simp);obtain ⟨i, hi, rfl⟩ := Jk.1 hx;obtain ⟨j, hj, rfl⟩ := Jk.1 hy;rcases Nat.lt_trichotomy i j with h | h | h
 ·exact ho.apart i j h hj
 ·subst h; exact absurd rfl hxy
 ·exact fun e => ho.apart j i h hi e.symm
theorem Y7a {d : Db} {q : Qry} {e : List Int × List Int} (h : SmallDb d) (he : e ∈ embs d q) (hN : 1048576 < N) : Z1n N d (sortI e.2 []) = some true := by
 obtain ⟨hq, ho⟩ := Y2n he;obtain ⟨l1, l2, l3⟩ := Y1q he;have hvb : validDb d = true := by unfold queryFor at hq; rw [Ja] at hq; exact hq.1
 have hap := Y79 ho;generalize sortI e.2 [] = w at l1 l2 l3 hap;have hsub := Y2i hvb l1 l2 (by omega);have hsm := Y4f h l2 (by omega);have hlen : (subDb d w).2.length = w.length := by simp [subDb]
 have hst : (blocksOf (subDb d w)).length = w.length := by
  unfold blocksOf;rw [Jf hsub, Jb];unfold B;rw [Jb, hlen];unfold sts;rw [List.filter_eq_self.2, Jr];intro s hs;have hs := Ji.1 hs;rw [Y6];intro k hk;have hk' : k < w.length := by omega
  have h1 := Jp.1 l1 k s hk' hs hk;have := hap _ (J5 hs) _ (J5 hk') (by omega);unfold sameD sameK;rw [Ya hs, Ya hk', J4 this, J1l]
 unfold Z1n;rw [Y6q h hvb l1 l2 (by omega) hN, J0];simp only [J7];unfold Z4j;rw [Y16 hsm hN, J0, hsub, J7, Yi hsm hN, J0, hst, hlen];simp
theorem Y27 {d : Db} {q : Qry} (h : SmallDb d) (hq : q.2.2.length <= 1048576) (hN : 1048576 < N) : Z2k N d q = some (need d q) := by
 have hfew := Y1h (d := d) (q := q);unfold Z2k Z9b;rw [Y95 h hq hN, J0];have := loop (fun k (s : Nat) => Z5u N k d.1 d.2 (((embs d q).take s).map fun e => sortI e.2 []) (embs d q) (s : Int)) (fun s => s <= (embs d q).length) (fun s => (embs d q).length - s) (fun o => o = some (need d q)) (fun k j hj' => by
  simp only [Z5u, Z8i];by_cases hj : j < (embs d q).length
  ·right;refine ⟨j + 1, hj, by omega, ?_⟩;have h1 : (j : Int) < ((embs d q).length : Int) := by omega
   have hm := J5 hj;have hfs := (Y2n hm).2.few;have hp : Z1n N (d.1, d.2) (sortI ((embs d q)[j]).2 []) = some true := Y7a h hm hN;simp only [zS, h1, Y0 hj, Y2 hj];rw [Y5t (by omega) hN, J0, hp, J0, J7, Y4, grd_true, Y1, J6 hj, Jg];rfl
  ·left;have h1 : ¬ (j : Int) < ((embs d q).length : Int) := by omega
   simp only [zS, h1];rw [J1d (by omega)];rfl) N 0 (by omega) (by omega)
 exact this
theorem Y3e {N k : Nat} {l : List (List Int)} {s : List Int} (hs : s.length <= 1048576) (hN : 1048576 < N) {i : Nat} (hi : i < l.length) (hil : i <= 1048576) : ∀ (f t : Nat) (b : Bool), (l[i]).length - t < f -> t <= (l[i]).length -> (l[i]).length <= 1048576 -> Z80 (Z35 N k) N f l s (i : Int) b (t : Int) = if (b && ((l[i]).drop t).all fun x => decide (x ∈ s)) then some true else Z35 N k l s ((i + 1 : Nat) : Int)
 | 0, t, b, hf, _, _ => by omega
 | f + 1, t, b, hf, ht, hw => by
  simp only [Z80, Z9d, Y0 hi, Y2 hi, grd_true];by_cases h : t < (l[i]).length
  ·have h1 : (t : Int) < ((l[i]).length : Int) := by omega
   rw [J1 h1, J7, Y0 h, Y2 h, grd_true, Y1, J8 h, List.all_cons];cases b with
   | false =>
    rw [J3, Y3e hs hN hi hil f (t + 1) false (by omega) h hw];simp
   | true =>
    rw [J7, Y6n hs hN, J0, Y3e hs hN hi hil f (t + 1) _ (by omega) h hw];simp
  ·have h1 : ¬ (t : Int) < ((l[i]).length : Int) := by omega
   rw [J4 h1, J3, List.drop_eq_nil_of_le (by omega), Y1];cases b <;> simp
theorem Y31 {l : List (List Int)} {s : List Int} (hs : s.length <= 1048576) (hl : l.length <= 1048576) (hw : ∀ w ∈ l, w.length <= 1048575) (hN : 1048576 < N) : Z3y N l s = some (l.any fun w => w.all fun x => decide (x ∈ s)) := by
 unfold Z3y Z8f Z0a2;rw [Y9 (n := l.length) (fun j => !((l.getD j []).all fun x => decide (x ∈ s))) (some true) (some false) (fun k i => Z35 N k l s i) (fun k => by simp [Z35, Z88]) (fun k j hj => ?_) (by omega)]
 ·by_cases h : (l.any fun w => w.all fun x => decide (x ∈ s)) = true
  ·rw [h, Jj, J0];intro h';obtain ⟨w, hw, hx⟩ := J1c.1 h;obtain ⟨j, hj, rfl⟩ := Jk.1 hw;have := h' j hj;rw [Y3 hj, hx] at this;cases this
  ·rw [Bool.not_eq_true] at h;rw [h, Jf, J0];intro j hj;have := (J25.1 h) _ (J5 hj);rw [Y3 hj];simpa using this
 ·have h1 : (j : Int) < (l.length : Int) := by omega
  have h2 := hw _ (J5 hj);simp only [zS, Z35, Z88, h1];have := Y3e (k := k) (l := l) hs hN hj (by omega) N 0 true (by omega) (by omega) (by omega);rw [List.drop_zero, Jd] at this;rw [show ((0 : Nat) : Int) = 0 from rfl] at this;rw [this, Y3 hj];cases (l[j].all fun x => decide (x ∈ s)) <;> simp
theorem Y6t {d : Db} {q : Qry} {s : List Int} (hs : s.length <= 1048576) (hN : 1048576 < N) : Z3y N (need d q) s = some (cov d q s) := by
 have hfew := Y1h (d := d) (q := q);rw [Y31 hs (by unfold need; rw [Jb]; omega) (fun w hw => by
  unfold need at hw;obtain ⟨e, he, rfl⟩ := J9.1 hw;have := (Y1q he).2.2;omega) hN]
 unfold need cov;rw [List.any_map];congr 1;apply congrArg (fun p => List.any (embs d q) p);funext e;simp only [Function.comp];rw [J1b];simp [Jw, Yf]
structure Some (d : Db) (l : List Con) (ss : List (List Int)) : Prop where
 few : ss.length <= 16384
 sub : ∀ r ∈ ss, r ∈ subsets d l
theorem Y5v : ∀ (C : List (List Int)) (k : Nat), repR C k = nth C k
 | [], k => rfl
 | c :: C, k => by simp only [repR, nth, Y5v C]
theorem Y9w (L : List (List Int)) (k : Nat) : repOf L k = repN L k := by unfold repOf repN; rw [Y5v]
theorem Y6u : ∀ L : List (List Int), prodL L = sizeP L
 | [] => rfl
 | b :: L => by simp only [prodL, sizeP, Y6u L]
theorem Y32 {l : List Int} (h : l.Nodup) : l.mergeSort (fun a b => decide (a <= b)) = sortI l [] := by
 refine Y1d ?_ (Yu l [] h (fun x hx => by simp) List.Pairwise.nil) (fun x => by rw [List.mem_mergeSort, Yf]; simp);have h1 : (l.mergeSort fun a b => decide (a <= b)).Pairwise (fun a b => decide (a <= b) = true) := List.pairwise_mergeSort (fun a b c h1 h2 => by simp only [J2] at *; omega) (fun a b => by simp only [J2c, J2]; omega) l;have h2 : (l.mergeSort fun a b => decide (a <= b)).Nodup := (List.mergeSort_perm l _).nodup_iff.2 h;exact (h1.and h2).imp fun {a b} h => by
  have := h.1;have h3 := h.2;simp only [J2] at this;omega
theorem Y5w {N : Nat} {es : List (List Int × List Int)} (hfew : es.length <= 2744) (hlen : ∀ e ∈ es, e.2.length <= 3 /\ e.2.Nodup) : ∀ (f j : Nat) (m : Int), es.length - j < f -> j <= es.length -> m <= j -> Z5v N f ((es.take j).map fun e => sortI e.2 []) es m (es.length : Int) (j : Int) = some (es.map fun e => sortI e.2 [])
 | 0, j, m, h, _, _ => by omega
 | f + 1, j, m, h, hj', hm => by
  simp only [Z5v, Z8m];by_cases hj : j < es.length
  ·have h1 : (j : Int) < (es.length : Int) := by omega
   have he := hlen _ (J5 hj);have hso : Z1b N (es[j]).2 = some (sortI (es[j]).2 []) := by
    unfold Z1b;rw [J1 (by omega), grd_true, Y32 he.2]
   simp only [zS, h1, J1 hm, Jd, Y0 hj, Y2 hj];rw [hso, J0, Y4 (by simp) (by simp; omega), grd_true, Y1];have := Y5w (N := N) hfew hlen f (j + 1) ((j : Int) + 1) (by omega) hj (by omega);rw [J6 hj, Jg] at this;exact this
  ·have h1 : ¬ (j : Int) < (es.length : Int) := by omega
   simp only [zS, h1];rw [J1d (by omega)]
theorem Y4z {d : Db} {q : Qry} (h : SmallDb d) (hq : q.2.2.length <= 1048576) (hN : 1048576 < N) : Z4w N d q = some (need d q) := by
 have hfew := Y1h (d := d) (q := q);unfold Z4w Z9i;rw [Y96 h hq hN, J0];have hlen : ∀ e ∈ embs d q, e.2.length <= 3 /\ e.2.Nodup := fun e he => ⟨(Y2n he).2.few, (Y2n he).2.nodup⟩;obtain ⟨M, rfl⟩ : ∃ M, N = M + 1 := ⟨N - 1, by omega⟩;simp only [Z7u, Z8n];by_cases hj : 0 < (embs d q).length
 ·have h1 : (0 : Int) < ((embs d q).length : Int) := by omega
  have he := hlen _ (J5 hj);have hso : Z1b (M + 1) ((embs d q)[0]).2 = some (sortI ((embs d q)[0]).2 []) := by
   unfold Z1b;rw [J1 (by omega), grd_true, Y32 he.2]
  have hin : inb 0 (embs d q) = true := Y0 (j := 0) hj;have hat : at_ ([], []) (embs d q) 0 = (embs d q)[0] := Y2 (j := 0) hj;rw [J1 h1, J7, hin, grd_true, hat, hso, J0, Y4 (by simp) (by simp), grd_true];have := Y5w (N := M + 1) hfew hlen M 1 1 (by omega) hj (by omega);rw [J6 hj] at this;exact this
 ·have h0 : embs d q = [] := J23.1 (by omega);unfold need;rw [h0];rfl
theorem Y9x {a s : List Int} (ha : a.length <= 1048576) (hs : s.length <= 1048576) (hN : 1048576 < N) : Z5r N a s = some (a.all fun x => decide (x ∈ s)) := by
 unfold Z5r Z0g Z0k Z2j;rw [Ye (d := (0 : Int)) (xs := a) (p := fun x => !decide (x ∈ s)) (first (n := a.length) (fun j => !decide (a.getD j 0 ∈ s)) (fun k i => Z0f N k a s (a.length : Int) i) (fun k => by simp [Z0f, Z13]) (fun k j hj => ?_) (by omega))]
 ·rw [J0];congr 1;rw [List.any_eq_not_all_not, Bool.not_not];simp
 ·have h1 : (j : Int) < (a.length : Int) := by omega
  simp only [zS, Z0f, Z13, Z4y, h1, Y0 hj, Y2 hj, Y3 hj, Y9r hs hN, Y1 (j := j)];cases decide (a[j] ∈ s) <;> rfl
theorem Y6d {l : List (List Int)} {s : List Int} (hs : s.length <= 1048576) (hl : l.length <= 1048576) (hw : ∀ w ∈ l, w.length <= 1048575) (hN : 1048576 < N) : Z42 N l s = some (l.any fun w => w.all fun x => decide (x ∈ s)) := by
 unfold Z42 Z0a Z0h Z20;rw [Ye (d := ([] : List Int)) (xs := l) (p := fun w => w.all fun x => decide (x ∈ s)) (first (n := l.length) (fun j => (l.getD j []).all fun x => decide (x ∈ s)) (fun k i => Z9 N k l s (l.length : Int) i) (fun k => by simp [Z9, Z0v]) (fun k j hj => ?_) (by omega))]
 ·rfl
 ·have h1 : (j : Int) < (l.length : Int) := by omega
  have hwl := hw _ (J5 hj);simp only [zS, Z9, Z0v, Z4p, h1, Y0 hj, Y2 hj, Y3 hj, Y9x (show (l[j]).length <= 1048576 by omega) hs hN, Y1 (j := j)];cases ((l[j]).all fun x => decide (x ∈ s)) <;> rfl
theorem Y9y {d : Db} {q : Qry} {s : List Int} (hs : s.length <= 1048576) (hN : 1048576 < N) : Z42 N (need d q) s = some (cov d q s) := by
 have hfew := Y1h (d := d) (q := q);have h1 := Y6d (N := N) (l := need d q) hs (by unfold need; rw [Jb]; omega) (fun w hw => by
  unfold need at hw;obtain ⟨e, he, rfl⟩ := J9.1 hw;have := (Y1q he).2.2;omega) hN
 have h2 := Y31 (N := N) (l := need d q) hs (by unfold need; rw [Jb]; omega) (fun w hw => by
  unfold need at hw;obtain ⟨e, he, rfl⟩ := J9.1 hw;have := (Y1q he).2.2;omega) hN
 rw [h1, <- h2, Y6t hs hN]
def ones (n : Nat) : List Int := List.replicate n 1
theorem Y18 {d : Db} (hv : validDb d = true) : Good1 d (ones d.2.length) := by
 refine Y11 ?_;unfold validWeights weightsIn ones;rw [hv, J2a];simp
theorem Y9g {d : Db} (hv : validDb d = true) : Parts d.2.length (sameD d) (blocksOf d) := by
 have hR := runs (Y7 hv);have hflat := Y1m hv;have hin := Y3p hv;have hb := (Y18 hv).blks;refine ⟨fun b hb => (Y2c hv b hb).1, hin, ?_, fun x h0 h1 => ?_, fun b hb x hx y hy => ?_, ?_, hR.symm⟩
 ·have := hb.flat;rw [List.pairwise_flatten] at this;exact this.2
 ·have : x ∈ (blocksOf d).flatten := by
   rw [hflat];unfold toI;exact J9.2 ⟨x.toNat, by rw [Ji]; omega, by omega⟩
  obtain ⟨b, k1, k2⟩ := J2l.1 this;exact ⟨b, k1, k2⟩
 ·unfold blocksOf at hb;rw [Jf hv] at hb;obtain ⟨c, hc, rfl⟩ := J9.1 hb;obtain ⟨s, hs, rfl⟩ := J9.1 hc;unfold toI at hx hy;obtain ⟨p, hp, rfl⟩ := J9.1 hx;obtain ⟨q, hq, rfl⟩ := J9.1 hy;have h1 := (Jm.1 hp).2;have h2 := (Jm.1 hq).2;exact hR.trans _ _ _ (hR.symm _ _ h1) h2
 ·unfold blocksOf;rw [Jf hv, J18];refine (Y9v hR).imp fun h1 x hx y hy => ?_;unfold toI at hx hy;obtain ⟨p, hp, rfl⟩ := J9.1 hx;obtain ⟨q, hq, rfl⟩ := J9.1 hy;exact h1 p hp q hq
def meets (b W : List Int) : Bool := b.any fun x => decide (x ∈ W)
theorem Y4m {a b : List Int} (ha : a.length <= 1000) (hb : b.length <= 1000) (hN : 1048576 < N) : Z4q N a b = some (meets a b) := by
 unfold Z4q Z9k;exact Ys (fun K (j : Nat) => Z6n N K a b (j : Int)) (fun j => j <= a.length /\ (a.take j).any (fun x => decide (x ∈ b)) = false) (fun j => a.length - j) (fun o => o = some (meets a b)) (fun K j hs ih => by
  obtain ⟨h1, h2⟩ := hs;simp only [Z6n, Z8x];by_cases hj : j < a.length
  ·have c : (j : Int) < (a.length : Int) := by omega
   simp only [zS, c, Y0 hj, Y2 hj, Y6n (show b.length <= 1048576 by omega) hN];by_cases e : a[j] ∈ b
   ·have : meets a b = true := by
     unfold meets;rw [J1c];exact ⟨_, J5 hj, by simpa using e⟩
    rw [J1 e, J7, this]
   ·rw [J4 e, J3, Y1];refine ih (j + 1) ⟨hj, ?_⟩ (by omega);rw [J6 hj, List.any_append, h2];simp [e]
  ·have c : ¬ (j : Int) < (a.length : Int) := by omega
   rw [J1d (by omega)] at h2;simp only [zS, c];unfold meets;rw [h2]) N 0 (by omega) ⟨by omega, by simp⟩
def leastW (L : List (List Int)) (mk W : List Int) : Nat -> Int
 | 0 => (L.length : Int)
 | k + 1 => if meets (L.getD k []) W then imin (leastW L mk W k) (mk.getD k 0) else leastW L mk W k
def setW (L : List (List Int)) (mk W : List Int) (m : Int) : Nat -> List Int
 | 0 => mk
 | k + 1 => if meets (L.getD k []) W then (setW L mk W m k).set k m else setW L mk W m k
def stepW (L : List (List Int)) (mk W : List Int) : List Int := setW L mk W (leastW L mk W L.length) L.length
def roundW (L need : List (List Int)) (mk : List Int) : List Int := need.foldl (stepW L) mk
def roundsW (L need : List (List Int)) (mk : List Int) : Nat -> List Int
 | 0 => mk
 | n + 1 => roundW L need (roundsW L need mk n)
theorem Y1i {L : List (List Int)} {mk W : List Int} {m : Int} : ∀ k, (setW L mk W m k).length = mk.length
 | 0 => rfl
 | k + 1 => by
  simp only [setW];split
  ·rw [J1t, Y1i k]
  ·exact Y1i k
theorem Yp {L : List (List Int)} {mk W : List Int} : (stepW L mk W).length = mk.length := Y1i _
theorem Y2o {L : List (List Int)} : ∀ {need : List (List Int)} {mk : List Int}, (need.foldl (stepW L) mk).length = mk.length
 | [], _ => rfl
 | W :: need, mk => by rw [J1g, Y2o, Yp]
theorem Y13 {L need : List (List Int)} {mk : List Int} : ∀ n, (roundsW L need mk n).length = mk.length
 | 0 => rfl
 | n + 1 => by
  simp only [roundsW, roundW];rw [Y2o, Y13 n]
theorem Y5x {L : List (List Int)} {mk W : List Int} {m : Int} {j : Nat} (hj : j < mk.length) : ∀ k, (setW L mk W m k).getD j 0 = if j < k /\ meets (L.getD j []) W = true then m else mk.getD j 0
 | 0 => by simp [setW]
 | k + 1 => by
  have ih := Y5x (L := L) (W := W) (m := m) hj k;have hl := Y1i (L := L) (mk := mk) (W := W) (m := m) k;simp only [setW];by_cases hm : meets (L.getD k []) W = true
  ·rw [Jf hm];by_cases e : j = k
   ·subst e;rw [Y3 (by rw [J1t, hl]; exact hj), List.getElem_set_self, Jf ⟨by omega, hm⟩]
   ·rw [Y3 (by rw [J1t, hl]; exact hj), List.getElem_set_ne (fun h => e h.symm), <- Y3 (d := 0), ih];congr 1;rw [eq_iff_iff];constructor <;> (intro h; exact ⟨by omega, h.2⟩)
  ·rw [Jj hm, ih];congr 1;rw [eq_iff_iff];constructor
   ·intro h; exact ⟨by omega, h.2⟩
   ·intro h;refine ⟨?_, h.2⟩;by_cases e : j = k
    ·rw [e] at h; exact absurd h.2 hm
    ·omega
theorem Y1j {L : List (List Int)} {mk W : List Int} (hl : mk.length = L.length) {j : Nat} (hj : j < L.length) : (stepW L mk W).getD j 0 = if meets (L.getD j []) W = true then leastW L mk W L.length else mk.getD j 0 := by
 unfold stepW;rw [Y5x (by omega)];congr 1;rw [eq_iff_iff];exact ⟨fun h => h.2, fun h => ⟨hj, h⟩⟩
theorem Y1k {L : List (List Int)} {mk W : List Int} : ∀ {n j : Nat}, j < n -> meets (L.getD j []) W = true -> leastW L mk W n <= mk.getD j 0
 | 0, j, h, _ => by omega
 | n + 1, j, h, hm => by
  simp only [leastW];by_cases e : j = n
  ·subst e;rw [Jf hm];unfold imin;split <;> omega
  ·have := Y1k (L := L) (mk := mk) (W := W) (n := n) (j := j) (by omega) hm;split
   ·unfold imin;split <;> omega
   ·exact this
theorem Y1l {L : List (List Int)} {mk W : List Int} : ∀ n, leastW L mk W n = (L.length : Int) \/ ∃ j, j < n /\ meets (L.getD j []) W = true /\ leastW L mk W n = mk.getD j 0
 | 0 => .inl rfl
 | n + 1 => by
  simp only [leastW];split
  ·rename_i hm;unfold imin;split
   ·exact .inr ⟨n, by omega, hm, rfl⟩
   ·rcases Y1l (L := L) (mk := mk) (W := W) n with h | ⟨j, h1, h2, h3⟩
    ·exact .inl h
    ·exact .inr ⟨j, by omega, h2, h3⟩
  ·rcases Y1l (L := L) (mk := mk) (W := W) n with h | ⟨j, h1, h2, h3⟩
   ·exact .inl h
   ·exact .inr ⟨j, by omega, h2, h3⟩
def InR (n : Nat) (mk : List Int) : Prop := mk.length = n /\ ∀ j, j < n -> 0 <= mk.getD j 0 /\ mk.getD j 0 < (n : Int)
theorem Y3f {L : List (List Int)} {mk W : List Int} (hl : mk.length = L.length) {j : Nat} (hj : j < L.length) : (stepW L mk W).getD j 0 <= mk.getD j 0 := by
 rw [Y1j hl hj];split
 ·rename_i hm;exact Y1k hj hm
 ·omega
theorem Y97 {L : List (List Int)} {mk W : List Int} (h : InR L.length mk) : InR L.length (stepW L mk W) := by
 refine ⟨by rw [Yp]; exact h.1, fun j hj => ?_⟩;rw [Y1j h.1 hj];split
 ·rename_i hm;have h1 := Y1k (mk := mk) hj hm;have h2 := h.2 j hj;rcases Y1l (L := L) (mk := mk) (W := W) L.length with h3 | ⟨i, i1, i2, i3⟩
  ·omega
  ·have := h.2 i i1;omega
 ·exact h.2 j hj
def Closed (L : List (List Int)) (mk : List Int) (t : Int) (W : List Int) : Prop := ∀ i j, i < L.length -> j < L.length -> meets (L.getD i []) W = true -> meets (L.getD j []) W = true -> mk.getD i 0 <= t -> mk.getD j 0 <= t
theorem Y7b {L : List (List Int)} {mk W : List Int} {t : Int} (hl : mk.length = L.length) (ht : t < (L.length : Int)) (hc : Closed L mk t W) {j : Nat} (hj : j < L.length) : (stepW L mk W).getD j 0 <= t ↔ mk.getD j 0 <= t := by
 constructor
 ·rw [Y1j hl hj];split
  ·rename_i hm;intro h;rcases Y1l (L := L) (mk := mk) (W := W) L.length with h3 | ⟨i, i1, i2, i3⟩
   ·omega
   ·exact hc i j i1 hj i2 hm (by omega)
  ·exact fun h => h
 ·intro h;have := Y3f (W := W) hl hj;omega
theorem Y5y {L : List (List Int)} : ∀ {need : List (List Int)} {mk : List Int}, InR L.length mk -> InR L.length (need.foldl (stepW L) mk)
 | [], _, h => h
 | W :: need, mk, h => by rw [J1g]; exact Y5y (Y97 h)
theorem Y3g {L : List (List Int)} : ∀ {need : List (List Int)} {mk : List Int}, mk.length = L.length -> ∀ {j : Nat}, j < L.length -> (need.foldl (stepW L) mk).getD j 0 <= mk.getD j 0
 | [], _, _, j, _ => J1z _
 | W :: need, mk, h, j, hj => by
  rw [J1g];have h1 := Y3f (W := W) h hj;have h2 := Y3g (need := need) (mk := stepW L mk W) (by rw [Yp]; exact h) hj;omega
theorem Y4n {L : List (List Int)} : ∀ {need : List (List Int)} {mk : List Int}, mk.length = L.length -> ∀ {W : List Int}, W ∈ need -> ∀ {i j : Nat}, i < L.length -> j < L.length -> meets (L.getD i []) W = true -> meets (L.getD j []) W = true -> (need.foldl (stepW L) mk).getD j 0 <= mk.getD i 0
 | [], _, _, W, hW, _, _, _, _, _, _ => by simp at hW
 | V :: need, mk, h, W, hW, i, j, hi, hj, h1, h2 => by
  rw [J1g];rcases Js.1 hW with e | hW
  ·subst e;have a1 := Y3g (need := need) (mk := stepW L mk W) (by rw [Yp]; exact h) hj;have a2 := Y1k (mk := mk) hi h1;rw [Y1j h hj, Jf h2] at a1;omega
  ·have a1 := Y4n (need := need) (mk := stepW L mk V) (by rw [Yp]; exact h) hW hi hj h1 h2;have a2 := Y3f (W := V) h hi;omega
theorem Yv {L : List (List Int)} {t : Int} (ht : t < (L.length : Int)) : ∀ {need : List (List Int)} {mk : List Int}, mk.length = L.length -> (∀ W ∈ need, Closed L mk t W) -> ∀ {j : Nat}, j < L.length -> ((need.foldl (stepW L) mk).getD j 0 <= t ↔ mk.getD j 0 <= t)
 | [], _, _, _, j, _ => Iff.rfl
 | V :: need, mk, h, hc, j, hj => by
  rw [J1g];have h1 : ∀ {j : Nat}, j < L.length -> ((stepW L mk V).getD j 0 <= t ↔ mk.getD j 0 <= t) := fun hj => Y7b h ht (hc V (by simp)) hj;rw [<- h1 hj];refine Yv ht (by rw [Yp]; exact h) (fun W hW i j hi hj m1 m2 hle => ?_) hj;rw [h1 hj];exact hc W (by simp [hW]) i j hi hj m1 m2 ((h1 hi).1 hle)
theorem Y33 {α : Type} {p p' : α -> Bool} : ∀ {l : List α}, (∀ x ∈ l, p x = true -> p' x = true) -> (l.filter p).length <= (l.filter p').length /\ ((∃ x ∈ l, p' x = true /\ p x = false) -> (l.filter p).length < (l.filter p').length)
 | [], _ => by simp
 | a :: l, h => by
  obtain ⟨h1, h2⟩ := Y33 (l := l) fun x hx => h x (by simp [hx]);have h0 := h a (by simp);rw [List.filter_cons, List.filter_cons];cases hp : p a with
  | true =>
   rw [h0 hp];simp only [if_true, J19];refine ⟨by omega, fun ⟨x, hx, k1, k2⟩ => ?_⟩;rcases Js.1 hx with e | hx
   ·rw [e, hp] at k2; cases k2
   ·have := h2 ⟨x, hx, k1, k2⟩;omega
  | false =>
   cases hp' : p' a with
   | true =>
    simp only [Bool.false_eq_true, if_false, if_true, J19];exact ⟨by omega, fun _ => by omega⟩
   | false =>
    simp only [Bool.false_eq_true, if_false];refine ⟨h1, fun ⟨x, hx, k1, k2⟩ => ?_⟩;rcases Js.1 hx with e | hx
    ·rw [e, hp'] at k1; cases k1
    ·exact h2 ⟨x, hx, k1, k2⟩
def cntW (n : Nat) (mk : List Int) (t : Int) : Nat := ((List.range n).filter fun j => decide (mk.getD j 0 <= t)).length
theorem Y34 {L need : List (List Int)} {mk : List Int} {t : Int} (hmk : InR L.length mk) (ht : t < (L.length : Int)) (h0 : 1 <= cntW L.length mk t) : ∀ n, (∀ W ∈ need, Closed L (roundsW L need mk n) t W) \/ n + 1 <= cntW L.length (roundsW L need mk n) t
 | 0 => .inr h0
 | n + 1 => by
  have hl : (roundsW L need mk n).length = L.length := by rw [Y13]; exact hmk.1
  rcases Y34 hmk ht h0 n with hc | hc
  ·left;intro W hW i j hi hj m1 m2 hle;simp only [roundsW, roundW] at hle ⊢;rw [Yv ht hl hc hj];exact hc W hW i j hi hj m1 m2 ((Yv ht hl hc hi).1 hle)
  ·by_cases hcl : ∀ W ∈ need, Closed L (roundsW L need mk n) t W
   ·left;intro W hW i j hi hj m1 m2 hle;simp only [roundsW, roundW] at hle ⊢;rw [Yv ht hl hcl hj];exact hcl W hW i j hi hj m1 m2 ((Yv ht hl hcl hi).1 hle)
   ·right;obtain ⟨W, hW⟩ := Classical.not_forall.1 hcl;obtain ⟨hW, hn⟩ := Classical.not_imp.1 hW;unfold Closed at hn;simp only [Classical.not_forall] at hn;obtain ⟨i, j, hi, hj, m1, m2, hle, hnj⟩ := hn;have := (Y33 (l := List.range L.length) (p := fun j => decide ((roundsW L need mk n).getD j 0 <= t)) (p' := fun j => decide ((roundsW L need mk (n + 1)).getD j 0 <= t)) fun x hx hp => by
     have a1 := Y3g (need := need) hl (Ji.1 hx);rw [J2] at hp ⊢;show (need.foldl (stepW L) (roundsW L need mk n)).getD x 0 <= t;omega).2 ⟨j, Ji.2 hj, by
      have a1 := Y4n hl hW hi hj m1 m2;rw [J2];show (need.foldl (stepW L) (roundsW L need mk n)).getD j 0 <= t;omega, by rw [J1q]; exact hnj⟩
    unfold cntW at hc ⊢;omega
theorem Y2p {L need : List (List Int)} {mk : List Int} (hmk : InR L.length mk) : ∀ n, InR L.length (roundsW L need mk n)
 | 0 => hmk
 | n + 1 => Y5y (Y2p hmk n)
def marks0 (n : Nat) : List Int := toI (List.range n)
theorem Y3v {n j : Nat} (hj : j < n) : (marks0 n).getD j 0 = (j : Int) := by
 unfold marks0 toI;rw [Y3 (by simpa using hj)];simp
theorem Y19 (n : Nat) : InR n (marks0 n) := by
 refine ⟨by unfold marks0 toI; simp, fun j hj => ?_⟩;rw [Y3v hj];omega
theorem Y5z {L need : List (List Int)} {W : List Int} (hW : W ∈ need) {i j : Nat} (hi : i < L.length) (hj : j < L.length) (m1 : meets (L.getD i []) W = true) (m2 : meets (L.getD j []) W = true) : (roundsW L need (marks0 L.length) L.length).getD i 0 = (roundsW L need (marks0 L.length) L.length).getD j 0 := by
 have hin := Y2p (need := need) (Y19 L.length) L.length;have key : ∀ {i j : Nat}, i < L.length -> j < L.length -> meets (L.getD i []) W = true -> meets (L.getD j []) W = true -> (roundsW L need (marks0 L.length) L.length).getD j 0 <= (roundsW L need (marks0 L.length) L.length).getD i 0 := by
  intro i j hi hj m1 m2;have h1 := hin.2 i hi;have h0 : 1 <= cntW L.length (marks0 L.length) ((roundsW L need (marks0 L.length) L.length).getD i 0) := by
   unfold cntW;have : (0 : Nat) ∈ (List.range L.length).filter fun j => decide ((marks0 L.length).getD j 0 <= (roundsW L need (marks0 L.length) L.length).getD i 0) := by
    rw [Jm];exact ⟨Ji.2 (by omega), by rw [Y3v (by omega), J2]; omega⟩
   exact List.length_pos_of_mem this
  rcases Y34 (need := need) (Y19 L.length) h1.2 h0 L.length with hc | hc
  ·exact hc W hW i j hi hj m1 m2 (J1z _)
  ·have : cntW L.length (roundsW L need (marks0 L.length) L.length) ((roundsW L need (marks0 L.length) L.length).getD i 0) <= L.length := by
    unfold cntW;have := Jo (fun j => decide ((roundsW L need (marks0 L.length) L.length).getD j 0 <= (roundsW L need (marks0 L.length) L.length).getD i 0)) (List.range L.length)
    rwa [Jr] at this
   omega
 have a1 := key hi hj m1 m2;have a2 := key hj hi m2 m1;omega
structure CompOk (L need : List (List Int)) : Prop where
 len : L.length <= 100
 blk : ∀ b ∈ L, b.length <= 1000
 few : need.length <= 100000
 wit : ∀ W ∈ need, W.length <= 1000
theorem CompOk.at {L need : List (List Int)} (h : CompOk L need) {j : Nat} (hj : j < L.length) : (L[j]).length <= 1000 := h.blk _ (J5 hj)
theorem Yab {N K : Nat} {R} {Q : Option (List (List Int)) -> Prop} {a : List Rel} {b : List Fact} {c : Int} {e : List Atm} {f : List Int} {L need : List (List Int)} {mk : List Int} {n m : Int} {i : Nat} (h : CompOk L need) (hi : i < need.length) (hm : mk.length = L.length) (hK : L.length < K) (hN : 1048576 < N)
  (hQ : Q (R a b c e f L (setW L mk need[i] m L.length) need n ((i + 1 : Nat) : Int))) : Q (Z24 R N K a b c e f L mk need n (i : Int) m 0) := by
 have hl := h.len;have hf := h.few;exact Ys (fun K (k : Nat) => Z24 R N K a b c e f L (setW L mk need[i] m k) need n (i : Int) m (k : Int)) (fun k => k <= L.length) (fun k => L.length - k) Q (fun K k hk ih => by
  simp only [Z24, Z5y];by_cases hj : k < L.length
  ·have c1 : (k : Int) < (L.length : Int) := by omega
   have c2 : inb (k : Int) (setW L mk need[i] m k) = true := Y0 (by rw [Y1i, hm]; exact hj);simp only [zS, c1, Y0 hj, Y0 hi, Y2 hj, Y2 hi, Y4m (h.at hj) (h.wit _ (J5 hi)) hN, c2, letv_eq, Jn];have hgd : L.getD k [] = L[k] := Y3 hj;have hst := ih (k + 1) hj (by omega);simp only [setW, hgd] at hst;rw [Y1];cases hme : meets L[k] need[i] with
   | true =>
    rw [hme, Jf rfl] at hst;rw [J7]; exact hst
   | false =>
    rw [hme, Jj (by simp)] at hst;rw [J3]; exact hst
  ·have : k = L.length := by omega
   subst this;simp only [zS, Je];rw [Y1];exact hQ) K 0 (by omega) (by omega)
theorem Yac {N K : Nat} {R} {Q : Option (List (List Int)) -> Prop} {a : List Rel} {b : List Fact} {c : Int} {e : List Atm} {f : List Int} {L need : List (List Int)} {mk : List Int} {n : Int} {i : Nat} (h : CompOk L need) (hi : i < need.length) (hm : mk.length = L.length) (hK : L.length < K) (hN : 1048576 < N)
  (hQ : Q (R a b c e f L (stepW L mk need[i]) need n ((i + 1 : Nat) : Int))) : Q (Z25 R N K a b c e f L mk need n (i : Int) (L.length : Int) 0) := by
 have hl := h.len;exact Ys (fun K (k : Nat) => Z25 R N K a b c e f L mk need n (i : Int) (leastW L mk need[i] k) (k : Int)) (fun k => k <= L.length) (fun k => L.length - k) Q (fun K k hk ih => by
  simp only [Z25, Z5z];by_cases hj : k < L.length
  ·have c1 : (k : Int) < (L.length : Int) := by omega
   have c2 : inb (k : Int) mk = true := Y0 (by rw [hm]; exact hj);have hgd : L.getD k [] = L[k] := Y3 hj;have hat : at_ 0 mk (k : Int) = mk.getD k 0 := by rw [Y2 (by omega), Y3 (by omega)]
   have hst := ih (k + 1) hj (by omega);simp only [leastW, hgd] at hst;simp only [zS, c1, Y0 hj, Y0 hi, Y2 hj, Y2 hi, Y4m (h.at hj) (h.wit _ (J5 hi)) hN, c2, hat];rw [Y1];cases hme : meets L[k] need[i] with
   | true =>
    rw [hme, Jf rfl] at hst;rw [J7]; exact hst
   | false =>
    rw [hme, Jj (by simp)] at hst;rw [J3]; exact hst
  ·have : k = L.length := by omega
   subst this;simp only [zS, Je];exact Yab h hi hm (by omega) hN hQ) K 0 (by omega) (by omega)
theorem Yad {N K : Nat} {R} {Q : Option (List (List Int)) -> Prop} {a : List Rel} {b : List Fact} {c : Int} {e : List Atm} {f : List Int} {L need : List (List Int)} {mk : List Int} {n : Nat} (h : CompOk L need) (hn : n <= 1000) (hm : mk.length = L.length) (hK : need.length < K) (hN : 1048576 < N)
  (hQ : Q (R a b c e f L (roundW L need mk) need ((n + 1 : Nat) : Int))) : Q (Z1j R N K a b c e f L mk need (n : Int) 0) := by
 have hl := h.len;have hf := h.few;exact Ys (fun K (i : Nat) => Z1j R N K a b c e f L ((need.take i).foldl (stepW L) mk) need (n : Int) (i : Int)) (fun i => i <= need.length) (fun i => need.length - i) Q (fun K i hk ih => by
  simp only [Z1j, Z60];by_cases hi : i < need.length
  ·have c1 : (i : Int) < (need.length : Int) := by omega
   simp only [zS, c1];refine Yac h hi (by rw [Y2o, hm]) (by omega) hN ?_;have hst := ih (i + 1) hi (by omega);rw [J6 hi, List.foldl_append] at hst;exact hst
  ·have : i = need.length := by omega
   subst this;simp only [zS, Je, J12];rw [Y1];exact hQ) K 0 (by omega) (by omega)
def partI (mk : List Int) (n i : Nat) : List Int := toI ((List.range n).filter fun k => decide (mk.getD k 0 = (i : Int)))
def partsOf (mk : List Int) (n : Nat) : Nat -> List (List Int)
 | 0 => []
 | i + 1 => partsOf mk n i ++ (if (partI mk n i).length > 0 then [partI mk n i] else [])
theorem Y8c (mk : List Int) (n i : Nat) : (partI mk n i).length <= n := by
 unfold partI toI;rw [Jb];exact Jq (Jo _ _) (by simp)
theorem Y1n (mk : List Int) (n : Nat) : ∀ i, (partsOf mk n i).length <= i
 | 0 => by simp [partsOf]
 | i + 1 => by
  have := Y1n mk n i;simp only [partsOf, J11];split <;> simp <;> omega
theorem Yae {N K : Nat} {R} {Q : Option (List (List Int)) -> Prop} {a : List Rel} {b : List Fact} {c : Int} {e : List Atm} {f : List Int} {L : List (List Int)} {mk : List Int} {out : List (List Int)} {i : Nat} (hl : L.length <= 100) (hm : mk.length = L.length) (ho : out.length <= 100) (hi : i <= 1000) (hK : L.length < K)
  (hQ : Q (R a b c e f L mk (out ++ (if (partI mk L.length i).length > 0 then [partI mk L.length i] else [])) ((i + 1 : Nat) : Int))) : Q (Z26 R N K a b c e f L mk out (i : Int) [] 0) := by
 have hpl := Y8c mk L.length i;exact Ys (fun K (k : Nat) => Z26 R N K a b c e f L mk out (i : Int) (toI ((List.range k).filter fun k => decide (mk.getD k 0 = (i : Int)))) (k : Int)) (fun k => k <= L.length) (fun k => L.length - k) Q (fun K k hk ih => by
  simp only [Z26, Z61];have hkl : (toI ((List.range k).filter fun k => decide (mk.getD k 0 = (i : Int)))).length <= k := by
   unfold toI;rw [Jb];exact Jq (Jo _ _) (by simp)
  by_cases hj : k < L.length
  ·have c1 : (k : Int) < (L.length : Int) := by omega
   have c2 : inb (k : Int) mk = true := Y0 (by rw [hm]; exact hj);have hat : at_ 0 mk (k : Int) = mk.getD k 0 := by rw [Y2 (by omega), Y3 (by omega)]
   have hst := ih (k + 1) hj (by omega);rw [J1a, J1s] at hst;simp only [zS, c1, c2, hat];rw [Y1];by_cases he : mk.getD k 0 = (i : Int)
   ·rw [beqI, J1 he, J7, Y4, grd_true];rw [List.filter_cons_of_pos (by rw [J2]; exact he), List.filter_nil] at hst;unfold toI at hst ⊢;rw [Jg] at hst;exact hst
   ·rw [beqI, J4 he, J3];rw [List.filter_cons_of_neg (by rw [J2]; exact he), List.filter_nil, Jl] at hst;exact hst
  ·have : k = L.length := by omega
   subst this;have hp : toI ((List.range L.length).filter fun k => decide (mk.getD k 0 = (i : Int))) = partI mk L.length i := rfl;simp only [zS, Je, hp];rw [Y1];by_cases h0 : (partI mk L.length i).length > 0
   ·have c3 : ((partI mk L.length i).length : Int) > 0 := by omega
    rw [Jf h0] at hQ;rw [J1 c3, J7, Y4, grd_true];exact hQ
   ·have c3 : ¬ ((partI mk L.length i).length : Int) > 0 := by omega
    rw [Jj h0, Jl] at hQ;rw [J4 c3, J3];exact hQ) K 0 (by omega) (by omega)
theorem Yaf {d : Db} {q : Qry} {L : List (List Int)} {mk : List Int} {b : Bool} (hl : L.length <= 100) (hm : mk.length = L.length) (hqf : Z0u N d q = some b) (hN : 1048576 < N) : Z1a N N d.1 d.2 q.1 q.2.1 q.2.2 L mk [] 0 = some (if b then partsOf mk L.length L.length else []) := by
 have hqf : Z0u N (d.1, d.2) (q.1, q.2.1, q.2.2) = some b := hqf;cases b with
 | false =>
  obtain ⟨M, rfl⟩ : ∃ M, N = M + 1 := ⟨N - 1, by omega⟩;simp only [zS, Z1a, Z47, hqf];cases decide ((0 : Int) < (L.length : Int)) <;> rfl
 | true =>
  rw [Jf rfl];exact Ys (fun K (i : Nat) => Z1a N K d.1 d.2 q.1 q.2.1 q.2.2 L mk (partsOf mk L.length i) (i : Int)) (fun i => i <= L.length) (fun i => L.length - i) (fun o => o = some (partsOf mk L.length L.length)) (fun K i hk ih => by
   simp only [Z1a, Z47];by_cases hi : i < L.length
   ·have c1 : (i : Int) < (L.length : Int) := by omega
    have := Y1n mk L.length i;simp only [zS, c1, hqf];exact Yae (Q := fun o => o = some (partsOf mk L.length L.length)) hl hm (by omega) (by omega) (by omega) (ih (i + 1) hi (by omega))
   ·have : i = L.length := by omega
    subst this;simp only [zS, Je]) N 0 (by omega) (by omega)
theorem Yag {d : Db} {q : Qry} {L need : List (List Int)} {mk : List Int} {b : Bool} (h : CompOk L need) (hm : mk.length = L.length) (hqf : Z0u N d q = some b) (hN : 1048576 < N) : Z1k N N d.1 d.2 q.1 q.2.1 q.2.2 L mk need 0 = some (if b then partsOf (roundsW L need mk L.length) L.length L.length else []) := by
 have hl := h.len;have hf := h.few;exact Ys (fun K (n : Nat) => Z1k N K d.1 d.2 q.1 q.2.1 q.2.2 L (roundsW L need mk n) need (n : Int)) (fun n => n <= L.length) (fun n => L.length - n) (fun o => o = some (if b then partsOf (roundsW L need mk L.length) L.length L.length else [])) (fun K n hk ih => by
  simp only [Z1k, Z62];by_cases hi : n < L.length
  ·have c1 : (n : Int) < (L.length : Int) := by omega
   simp only [zS, c1];exact Yad (Q := fun o => o = some (if b then partsOf (roundsW L need mk L.length) L.length L.length else [])) h (by omega) (by rw [Y13, hm]) (by omega) hN (ih (n + 1) hi (by omega))
  ·have : n = L.length := by omega
   subst this;simp only [zS, Je];exact Yaf hl (by rw [Y13, hm]) hqf hN) N 0 (by omega) (by omega)
def markOf (d : Db) (q : Qry) : List Int := roundsW (blocksOf d) (need d q) (marks0 (blocksOf d).length) (blocksOf d).length
theorem Ya3 {d : Db} {q : Qry} (hqf : queryFor d q = true) : CompOk (blocksOf d) (need d q) := by
 have hv : validDb d = true := by
  unfold queryFor at hqf;simp only [Ja] at hqf;exact hqf.1
 have hb := (Y18 hv).blks;refine ⟨by have := hb.len; omega, fun b hbm => by have := hb.each b hbm; omega, ?_, fun W hW => ?_⟩
 ·unfold need;rw [Jb];have := Y1h (d := d) (q := q);omega
 ·unfold need at hW;obtain ⟨e, he, rfl⟩ := J9.1 hW;have := (Y1q he).2.2;omega
theorem Y8d {d : Db} {q : Qry} (h : SmallDb d) (hqf : queryFor d q = true) (hq : q.2.2.length <= 1048576) (hN : 1048576 < N) : Z2e N d q = some (partsOf (markOf d q) (blocksOf d).length (blocksOf d).length) := by
 have hc := Ya3 hqf;have hl := hc.len;unfold Z2e Z7i;rw [Yi h hN, J0];have hqs := Yr (N := N) h hq hN;rw [hqf] at hqs;exact Ys (fun K (i : Nat) => Z39 N K d.1 d.2 q.1 q.2.1 q.2.2 (blocksOf d) (marks0 i) (i : Int)) (fun i => i <= (blocksOf d).length) (fun i => (blocksOf d).length - i) (fun o => o = some (partsOf (markOf d q) (blocksOf d).length (blocksOf d).length)) (fun K i hk ih => by
  simp only [Z39, Z63];by_cases hi : i < (blocksOf d).length
  ·have c1 : (i : Int) < ((blocksOf d).length : Int) := by omega
   have hlen : (marks0 i).length = i := (Y19 i).1;have hs : marks0 (i + 1) = marks0 i ++ [(i : Int)] := by
    unfold marks0 toI;rw [J1a, Jg];rfl
   simp only [zS, c1];rw [Y4, grd_true, Y1, <- hs];exact ih (i + 1) hi (by omega)
  ·have : i = (blocksOf d).length := by omega
   subst this;have hw : Z2k N (d.1, d.2) (q.1, q.2.1, q.2.2) = some (need d q) := Y27 h hq hN;simp only [zS, Je, hw];exact Yag hc (Y19 _).1 hqs hN) N 0 (by omega) (by omega)
theorem Y8e {d : Db} (hvb : validDb d = true) : ∀ b ∈ blocksOf d, ∀ x ∈ b, 0 <= x /\ x < (d.2.length : Int) := by
 intro b hb x hx;unfold blocksOf at hb;rw [Jf hvb] at hb;obtain ⟨b', hb', rfl⟩ := J9.1 hb;unfold B at hb';obtain ⟨s, hs, rfl⟩ := J9.1 hb';unfold toI at hx;obtain ⟨k, hk, rfl⟩ := J9.1 hx;have := Ji.1 (Jm.1 hk).1;omega
theorem Y6v (N : Nat) (w : List Int) (b : List (List Int)) (i : Int) (hi : inb i b = true) (R' : List Int -> Int -> List (List Int) -> Int -> Int -> Option Int) (R : List Int -> Int -> List (List Int) -> Int -> Option Int) (hR : ∀ x, R' w x b (b.length : Int) (w64 (i + 1)) = R w x b (w64 (i + 1))) (n : Int) :
  ∀ k s kk, Z1h R' N k w n s b (b.length : Int) i i (at_ [] b i) ((at_ [] b i).length : Int) kk = Z14 R N k w n b i s kk
 | 0, _, _ => rfl
 | k + 1, s, kk => by
  simp only [Z1h, Z43, Z14, Z2w, hi, grd_true, hR, Y6v N w b i hi R' R hR n k]
theorem Y8f {N : Nat} (hN : 0 < N) (w : List Int) (b : List (List Int)) : ∀ k n i, Z15 N k w n b (b.length : Int) i = Z0t N k w n b i
 | 0, _, _ => rfl
 | k + 1, n, i => by
  simp only [Z15, Z44, Z0t, Z3w];cases decide (i < (b.length : Int)) with
  | false => rfl
  | true =>
   simp only [J7];cases hi : inb i b with
   | true =>
    rw [grd_true];exact Y6v N w b i hi _ _ (fun x => Y8f hN w b k x _) n N 0 0
   | false =>
    obtain ⟨m, rfl⟩ : ∃ m, N = m + 1 := ⟨N - 1, by omega⟩;simp only [Z14, Z2w, hi, grd_false]
theorem Ya4 {w : List Int} {b : List (List Int)} {j : Nat} (hj : j < b.length) (hb : (b[j]).length <= 1000) (hin : ∀ x ∈ b[j], 0 <= x /\ x < (w.length : Int)) (hN : 1048576 < N) (R : List Int -> Int -> List (List Int) -> Int -> Option Int) (n : Int) :
  ∃ s, Z14 R N N w n b (j : Int) 0 0 = R w (w64 (n * s)) b (w64 ((j : Int) + 1)) := by
 have := loop (fun k (s : Int × Nat) => Z14 R N k w n b (j : Int) s.1 (s.2 : Int)) (fun s => s.2 <= (b[j]).length) (fun s => (b[j]).length - s.2) (fun o => ∃ s, o = R w (w64 (n * s)) b (w64 ((j : Int) + 1))) (fun k s hs => by
  obtain ⟨s, q⟩ := s;simp only at hs ⊢;by_cases hq : q < (b[j]).length
  ·right;have e1 : (q : Int) < ((b[j]).length : Int) := by omega
   have h2 := hin _ (J5 hq);refine ⟨(w64 (s + at_ 0 w (b[j])[q]), q + 1), hq, by simp only; omega, ?_⟩;simp only [zS, Z14, Z2w, Y0 hj, Y2 hj, e1, Y0 hq, Y2 hq, Yb h2.1 h2.2, Y1 (j := q)]
  ·left;have e1 : ¬ (q : Int) < ((b[j]).length : Int) := by omega
   exact ⟨s, by simp only [zS, Z14, Z2w, Y0 hj, Y2 hj, e1]⟩) N (0, 0) (by simp only; omega) (by simp)
 exact this
theorem Ya5 {w : List Int} {b : List (List Int)} (hbl : b.length <= 1000) (hb : ∀ x ∈ b, x.length <= 1000) (hin : ∀ r ∈ b, ∀ x ∈ r, 0 <= x /\ x < (w.length : Int)) (hN : 1048576 < N) : ∃ x, Z0t N N w 1 b 0 = some x := by
 have := loop (fun k (s : Int × Nat) => Z0t N k w s.1 b (s.2 : Int)) (fun s => s.2 <= b.length) (fun s => b.length - s.2) (fun o => ∃ x, o = some x) (fun k s hs => by
  obtain ⟨n, j⟩ := s;simp only at hs ⊢;by_cases hj : j < b.length
  ·right;have e1 : (j : Int) < (b.length : Int) := by omega
   obtain ⟨s, hs⟩ := Ya4 hj (hb _ (J5 hj)) (hin _ (J5 hj)) hN (Z0t N k) n;refine ⟨(w64 (n * s), j + 1), hj, by simp only; omega, ?_⟩;simp only [zS, Z0t, Z3w, e1];rw [hs, Y1]
  ·left;have e1 : ¬ (j : Int) < (b.length : Int) := by omega
   exact ⟨n, by simp only [zS, Z0t, Z3w, e1]⟩) N (1, 0) (by simp only; omega) (by simp)
 exact this
theorem Y6e {d : Db} {w : List Int} (h : SmallDb d) (hw : w.length <= 1048576) (hN : 1048576 < N) : ∃ x, Z18 N d w = some x /\ Z1r N d w = some x := by
 unfold Z18 Z8y Z1r Z79;rw [Yz h hw hN, Y10 h hw hN, J0, J0];cases hvw : validWeights d w with
 | false => exact ⟨0, rfl, rfl⟩
 | true =>
  have hvw2 := hvw;unfold validWeights at hvw2;simp only [Ja, J2] at hvw2;obtain ⟨hvb, hwl, _⟩ := hvw2;obtain ⟨s1, s2, s3, s4⟩ := Yx hvb;have hf := (Y7 hvb).few;simp only [zS, Yi h hN, Y42 h hvb hN];obtain ⟨x, hx⟩ := Ya5 (N := N) (w := w) (b := blocksOf d) (by omega) (fun r hr => by
   have : r.length ∈ sizes d := J9.2 ⟨_, hr, rfl⟩;have := Y43 this;omega) (fun r hr x hx => by rw [hwl]; exact Y8e hvb r hr x hx) hN
  exact ⟨x, hx, by rw [Y8f (by omega), hx]⟩
theorem Y2q {f : Nat -> Int} (hf : ∀ k, 1 <= f k) : ∀ {n k : Nat}, k <= n -> 0 <= sumN f k /\ sumN f k <= sumN f n
 | 0, k, h => by
  obtain rfl : k = 0 := by omega
  simp [sumN]
 | n + 1, k, h => by
  have h1 := hf n;by_cases e : k = n + 1
  ·subst e;have := (Y2q hf (n := n) (k := n) (Jx _)).1;simp only [sumN];omega
  ·have := Y2q hf (n := n) (k := k) (by omega);simp only [sumN];omega
def gcdI : Nat -> Int -> Int -> Option Int
 | 0, _, _ => none
 | k + 1, a, b => bif b != 0 then grz b (gcdI k b (a.tmod b)) else some a
theorem Y60 {N : Nat} : ∀ (k : Nat) (a b : Int), Z81 N k a b = gcdI k a b
 | 0, a, b => rfl
 | k + 1, a, b => by simp only [Z81, Z9e, gcdI, Y60 k]
theorem Y61 {N : Nat} : ∀ (k : Nat) (a b : Int), Z99 N k a b = gcdI k a b
 | 0, a, b => rfl
 | k + 1, a, b => by simp only [Z99, Z0a8, gcdI, Y61 k]
theorem Y62 : ∀ (j : Nat) (k : Nat) (a b : Nat), b < 2 ^ j -> 2 * j + 1 <= k -> 0 < a + b -> ∃ g : Nat, gcdI k (a : Int) (b : Int) = some (g : Int) /\ 1 <= g
 | 0, k, a, b, hb, hk, hp => by
  obtain ⟨k, rfl⟩ : ∃ m, k = m + 1 := ⟨k - 1, by omega⟩;obtain rfl : b = 0 := by simpa using hb
  exact ⟨a, by simp [gcdI], by omega⟩
 | j + 1, k, a, b, hb, hk, hp => by
  obtain ⟨k, rfl⟩ : ∃ m, k = m + 1 + 1 := ⟨k - 2, by omega⟩;by_cases h0 : b = 0
  ·subst h0; exact ⟨a, by simp [gcdI], by omega⟩
  have e1 : ((b : Int) != 0) = true := by simp; omega
  have e2 : (a : Int).tmod (b : Int) = ((a % b : Nat) : Int) := rfl;have hz : (b : Int) ≠ 0 := by omega
  have hr : a % b < b := J22 _ (by omega);rw [gcdI, e1, J7, Y14 hz, e2];by_cases h1 : a % b = 0
  ·rw [h1]; exact ⟨b, by simp [gcdI], by omega⟩
  have e3 : (((a % b : Nat) : Int) != 0) = true := by simp; omega
  have e4 : (b : Int).tmod ((a % b : Nat) : Int) = ((b % (a % b) : Nat) : Int) := rfl;have hz2 : ((a % b : Nat) : Int) ≠ 0 := by omega
  rw [gcdI, e3, J7, Y14 hz2, e4];refine Y62 j k _ _ ?_ (by omega) (by omega);have h2 : b % (a % b) < a % b := J22 _ (by omega);rw [J21] at hb;by_cases h3 : 2 * (a % b) <= b
  ·omega
  ·have : b % (a % b) = b - a % b := by
    rw [Nat.mod_eq_sub_mod (by omega), Nat.mod_eq_of_lt (by omega)]
   omega
def covW (d : Db) (q : Qry) (w : List Int) (k : Nat) : Int := if cov d q (repN (blocksOf d) k) then pw w (nth (blocksOf d).reverse k) else 0
theorem Y22 {f g : Nat -> Int} (h : ∀ k, 0 <= f k /\ f k <= g k) : ∀ n, 0 <= sumN f n /\ sumN f n <= sumN g n
 | 0 => by simp [sumN]
 | n + 1 => by have := h n; have := Y22 h n; simp only [sumN]; omega
structure WOk (d : Db) (w : List Int) : Prop where
 g : Good1 d w
 few : sizeP (blocksOf d) <= 16384
 pos : ∀ k, 1 <= pw w (nth (blocksOf d).reverse k)
 sum : sumN (fun k => pw w (nth (blocksOf d).reverse k)) (sizeP (blocksOf d)) = tw w (blocksOf d)
 top : 1 <= tw w (blocksOf d) /\ tw w (blocksOf d) <= 374813367582081024
 rep : ∀ k, (repN (blocksOf d) k).Pairwise (· < ·) /\ (∀ x ∈ repN (blocksOf d) k, 0 <= x /\ x < (d.2.length : Int)) /\ (repN (blocksOf d) k).length <= 14 /\ pw w (repN (blocksOf d) k) = pw w (nth (blocksOf d).reverse k)
theorem wOk {d : Db} {w : List Int} (hv : validWeights d w = true) : WOk d w := by
 have hg := Y11 hv;have hb := hg.blks;have hs := Y1y hb.ne;have h2p : 2 ^ ((blocksOf d).map List.length).sum <= 2 ^ 14 := J13 (by decide) hb.sum;have hT := Y74 hb.ne hb.wts;have hT1 := Y3u hb.ne hb.wts;have h18 : 18 ^ ((blocksOf d).map List.length).sum <= 18 ^ 14 := J13 (by decide) hb.sum;rw [Y9f] at h18;have hnth := fun k => Y5l (w := w) (C := (blocksOf d).reverse) (k := k) hb.rev.1 fun c hc => hb.wts c (J17.1 hc);refine ⟨hg, by omega, fun k => Y2h (hnth k).2.1, ?_, ⟨hT1, by omega⟩, fun k => ⟨?_, ?_, ?_, Y3r w _⟩⟩
 ·rw [<- Yl, Y2y w _ hb.rev.1, Y3s]
 ·unfold repN;rw [List.pairwise_reverse];exact Y1z hb.rev.1 hb.rev.2
 ·intro x hx;obtain ⟨c, q1, q2⟩ := Y45 hb.rev.1 x (J17.1 hx);exact hb.ins c (J17.1 q1) x q2
 ·unfold repN;rw [J2i, (hnth k).2.2, J2i];exact hb.len
theorem WOk.bound {d : Db} {w : List Int} (h : WOk d w) (q : Qry) {k : Nat} (hk : k <= sizeP (blocksOf d)) : 0 <= sumN (covW d q w) k /\ sumN (covW d q w) k <= 374813367582081024 := by
 have h1 := Y22 (f := covW d q w) (g := fun k => pw w (nth (blocksOf d).reverse k)) (fun k => by
  have := h.pos k;unfold covW;split <;> omega) k
 have h2 := (Y2q h.pos hk).2;rw [h.sum] at h2;have := h.top;omega
theorem Y4o {d : Db} {q : Qry} {w : List Int} {k : Nat} : sumN (covW d q w) (k + 1) = sumN (covW d q w) k + covW d q w k := rfl
theorem Y6f {d : Db} {w l : List Int} (h : SmallDb d) (hv : validWeights d w = true) (hN : 1048576 < N) (hs : l.Pairwise (· < ·)) (hin : ∀ x ∈ l, 0 <= x /\ x < (d.2.length : Int)) (hl : l.length <= 14) : Z2o N d w l = some (pw w l) := by
 have hg := Y11 hv;have hlen := hg.len;have hf := hg.few;unfold Z2o Z8k;rw [Yz h (by omega) hN, J0, hv, Jc, J3, Y6l h (by omega) hN, J0, Y2z hs hin, Jc, J3];exact Y4a (fun x hx => hg.wts x (hin x hx).1 (hin x hx).2) (fun x hx => by rw [hlen]; exact hin x hx) hl hN
theorem Ya6 {d : Db} {w : List Int} {q : Qry} (h : SmallDb d) (hv : validWeights d w = true) (hq : q.2.2.length <= 1048576) (hN : 1048576 < N) : Z78 N d w q = some (sumN (covW d q w) (sizeP (blocksOf d))) := by
 have hw := wOk hv;have hg := hw.g;have hfew := hw.few;have hlen := hg.len;unfold Z78 Z0ao;rw [Y27 h hq hN, J0];exact loop (fun f (s : Nat) => Z8d N f w d.1 d.2 (sumN (covW d q w) s) (need d q) (s : Int)) (fun s => s <= sizeP (blocksOf d)) (fun s => sizeP (blocksOf d) - s) (fun o => o = some (sumN (covW d q w) (sizeP (blocksOf d)))) (fun f k hk => by
  simp only [Z8d, Z9l, Y26 (d := (d.1, d.2)) h hg hN, J0, show blocksOf (d.1, d.2) = blocksOf d from rfl];by_cases hlt : k < sizeP (blocksOf d)
  ·right;refine ⟨k + 1, hlt, by omega, ?_⟩;have h1 : (k : Int) < ((sizeP (blocksOf d) : Nat) : Int) := by omega
   obtain ⟨r1, r2, r3, r4⟩ := hw.rep k;have hb1 := hw.bound q (k := k) (by omega);have hb2 := hw.bound q (k := k + 1) hlt;rw [J1 h1, J7, nthV (d := (d.1, d.2)) h hg hN hlt, J0, show blocksOf (d.1, d.2) = blocksOf d from rfl];simp only;rw [Y6t (by omega) hN, J0];rw [Y4o] at hb2 ⊢;cases hc : cov d q (repN (blocksOf d) k) with
   | true =>
    have e : covW d q w k = pw w (nth (blocksOf d).reverse k) := by unfold covW; rw [hc]; rfl
    have e1 : Z2o N (d.1, d.2) w (repN (blocksOf d) k) = some (pw w (repN (blocksOf d) k)) := Y6f h hv hN r1 r2 r3;rw [J7, e1, J0, r4, <- e, Y5, Y1]
   | false =>
    have e : covW d q w k = 0 := by unfold covW; rw [hc]; rfl
    rw [J3, e, Int.add_zero, Y1]
  ·left;have : k = sizeP (blocksOf d) := by omega
   subst this;simp only [zS, Je]) N 0 (by omega) (by omega)
theorem Ya7 {d : Db} {w : List Int} {q : Qry} (h : SmallDb d) (hv : validWeights d w = true) (hN : 1048576 < N) {x : Int × Int} (hg1 : Z5b N (sumN (covW d q w) (sizeP (blocksOf d))) (tw w (blocksOf d)) = some x) :
  Z3j N N w d.1 d.2 0 0 (need d q) (blocksOf d) 0 (sizeP (blocksOf d) : Int) 0 = some (x, true) := by
 have hw := wOk hv;have hg := hw.g;have hb := hg.blks;have hfew := hw.few;have hlen := hg.len;exact loop (fun f (s : Nat) => Z3j N f w d.1 d.2 0 0 (need d q) (blocksOf d) (sumN (covW d q w) s) (sizeP (blocksOf d) : Int) (s : Int)) (fun s => s <= sizeP (blocksOf d)) (fun s => sizeP (blocksOf d) - s) (fun o => o = some (x, true)) (fun f k hk => by
  simp only [Z3j, Z84];by_cases hlt : k < sizeP (blocksOf d)
  ·right;refine ⟨k + 1, hlt, by omega, ?_⟩;have h1 : (k : Int) < ((sizeP (blocksOf d) : Nat) : Int) := by omega
   obtain ⟨r1, r2, r3, r4⟩ := hw.rep k;have hb1 := hw.bound q (k := k) (by omega);have hb2 := hw.bound q (k := k + 1) hlt;rw [J1 h1, J7, Y7l (by have := hb.len; omega) hb.ne (fun b hb' => by have := hb.each b hb'; omega) (by omega) hN, Y9w, J0, Y9y (by omega) hN, J0];rw [Y4o] at hb2 ⊢;cases hc : cov d q (repN (blocksOf d) k) with
   | true =>
    have e : covW d q w k = pw w (nth (blocksOf d).reverse k) := by unfold covW; rw [hc]; rfl
    have e1 : Z5s N w (repN (blocksOf d) k) = some (pw w (repN (blocksOf d) k)) := by
     unfold Z5s Z9n;rw [Y9d];exact Y4a (fun x hx => hg.wts x (r2 x hx).1 (r2 x hx).2) (fun x hx => by rw [hlen]; exact r2 x hx) r3 hN
    rw [J7, e1, J0, r4, <- e, Y5, Y1]
   | false =>
    have e : covW d q w k = 0 := by unfold covW; rw [hc]; rfl
    rw [J3, e, Int.add_zero, Y1]
  ·left;have : k = sizeP (blocksOf d) := by omega
   subst this;have ht : Z1r N (d.1, d.2) w = some (tw w (blocksOf d)) := Y89 h hv hN;simp only [zS, Je];rw [ht, J0, hg1];rfl) N 0 (by omega) (by omega)
theorem Ya8 {n m : Int} (hn : 0 <= n) (hm : 1 <= m) (hm2 : m <= 374813367582081024) (hN : 1048576 < N) : ∃ x, Z32 N n m = some x /\ Z5b N n m = some x := by
 obtain ⟨n, rfl⟩ : ∃ k : Nat, n = k := ⟨n.toNat, by omega⟩;obtain ⟨m, rfl⟩ : ∃ k : Nat, m = k := ⟨m.toNat, by omega⟩;obtain ⟨g, hg, hg1⟩ := Y62 59 N n m (by omega) (by omega) (by omega);refine ⟨(w64 ((n : Int).tdiv g), w64 ((m : Int).tdiv g)), ?_, ?_⟩
 ·unfold Z32 Z8g Z0a3;rw [Y60, hg, J0, Y14 (by omega), Y14 (by omega)]
 ·have e : imax (g : Int) 1 = g := by unfold imax; split <;> omega
  unfold Z5b Z9v Z0be;rw [Y61, hg, J0, e, Y14 (by omega), Y14 (by omega)]
theorem Y6g {d : Db} {q : Qry} (h : queryFor d q = true) : validDb d = true := by
 unfold queryFor at h;simp only [Ja] at h;exact h.1
theorem Y9z {w r s : List Int} (h : r.Perm s) : pw w r = pw w s := by
 induction h with
 | nil => rfl
 | cons x _ ih => simp only [pw]; rw [ih]
 | swap x y l => simp only [pw]; rw [<- Int.mul_assoc, <- Int.mul_assoc, J2f (at_ 0 w y)]
 | trans _ _ h1 h2 => rw [h1, h2]
theorem Y2r {d : Db} {q : Qry} {r s : List Int} (h : ∀ x, x ∈ r ↔ x ∈ s) : cov d q r = cov d q s := by
 unfold cov;simp only [h]
def gW (d : Db) (q : Qry) (w r : List Int) : Int := if cov d q r then 0 else pw w r
theorem Y23 (d : Db) (q : Qry) (w : List Int) : Unord (gW d q w) := fun r s h => by
 unfold gW;rw [Y2r fun x => h.mem_iff, Y9z h]
theorem Y98 {d : Db} {q : Qry} {e : List Int × List Int} (he : e ∈ embs d q) : 0 < e.2.length := by
 unfold embs at he;split at he
 ·rename_i h;obtain ⟨gs, h1, h2, h3, h4⟩ := (Yo _ _ _ _).1 he;unfold queryFor validQ at h;simp only [Ja, J2] at h;rw [h4, J20];omega
 ·cases he
theorem Y63 (d : Db) (q : Qry) (w : List Int) : gW d q w [] = 1 := by
 have : cov d q [] = false := by
  unfold cov;rw [J25];intro e he;have := Y98 he;cases hx : e.2 with
  | nil => rw [hx] at this; simp at this
  | cons x l => simp
 unfold gW;rw [this];rfl
def mkN (d : Db) (q : Qry) (k : Nat) : Nat := ((markOf d q).getD k 0).toNat
theorem Y8g {d : Db} {q : Qry} {k : Nat} (hk : k < (blocksOf d).length) : mkN d q k < (blocksOf d).length /\ ((mkN d q k : Nat) : Int) = (markOf d q).getD k 0 := by
 have := (Y2p (L := blocksOf d) (need := need d q) (Y19 (blocksOf d).length) (blocksOf d).length).2 k hk;unfold mkN markOf;omega
theorem Y4p {L : List (List Int)} {I : List Nat} {b : List Int} (h : b ∈ blkAt L I) : ∃ i ∈ I, b = L.getD i [] := by
 unfold blkAt at h;obtain ⟨i, h1, h2⟩ := J9.1 h;exact ⟨i, h1, h2.symm⟩
theorem Y64 {d : Db} {q : Qry} {w : List Int} {I J : List Nat} (hI : ∀ i ∈ I, i < (blocksOf d).length) (hJ : ∀ j ∈ J, j < (blocksOf d).length) (hIJ : ∀ i ∈ I, ∀ j ∈ J, mkN d q i ≠ mkN d q j) {r s : List Int} (hr : picks (blkAt (blocksOf d) I) r) (hs : picks (blkAt (blocksOf d) J) s) : gW d q w (r ++ s) = gW d q w r * gW d q w s := by
 have hc : cov d q (r ++ s) = (cov d q r || cov d q s) := by
  rw [J1b, J2c];unfold cov;simp only [J1c, Jw, J2, J2e];constructor
  ·intro ⟨e, he, h⟩;by_cases h1 : ∀ x ∈ e.2, x ∈ r
   ·exact .inl ⟨e, he, h1⟩
   by_cases h2 : ∀ x ∈ e.2, x ∈ s
   ·exact .inr ⟨e, he, h2⟩
   exfalso;obtain ⟨x, hx⟩ := Classical.not_forall.1 h1;obtain ⟨hx, hxr⟩ := Classical.not_imp.1 hx;obtain ⟨y, hy⟩ := Classical.not_forall.1 h2;obtain ⟨hy, hys⟩ := Classical.not_imp.1 hy;have hxs := (h x hx).resolve_left hxr;have hyr := (h y hy).resolve_right hys;obtain ⟨b, b1, b2⟩ := (Y2j hs).1 x hxs;obtain ⟨c, c1, c2⟩ := (Y2j hr).1 y hyr;obtain ⟨j, j1, rfl⟩ := Y4p b1;obtain ⟨i, i1, rfl⟩ := Y4p c1;have hW : sortI e.2 [] ∈ need d q := J9.2 ⟨e, he, rfl⟩;have m : ∀ {k : Nat} {z : Int}, z ∈ e.2 -> z ∈ (blocksOf d).getD k [] -> meets ((blocksOf d).getD k []) (sortI e.2 []) = true := fun hz hk => by
    unfold meets;rw [J1c];exact ⟨_, hk, by rw [J2, Yf]; exact .inl hz⟩
   have := Y5z hW (hI i i1) (hJ j j1) (m hy c2) (m hx b2);refine hIJ i i1 j j1 ?_;unfold mkN markOf;rw [this]
  ·intro h;rcases h with ⟨e, he, h⟩ | ⟨e, he, h⟩
   ·exact ⟨e, he, fun x hx => .inl (h x hx)⟩
   ·exact ⟨e, he, fun x hx => .inr (h x hx)⟩
 unfold gW;rw [hc, Y2f];cases cov d q r <;> cases cov d q s <;> simp
theorem Ya9 {d : Db} {q : Qry} {w : List Int} : ∀ m, sumC (blkAt (blocksOf d) (below (mkN d q) (blocksOf d).length m)) (gW d q w) = prodN (fun i => sumC (blkAt (blocksOf d) (ofMark (mkN d q) (blocksOf d).length i)) (gW d q w)) m :=
 Y21 (Y23 d q w) (Y63 d q w) fun I J hI hJ hIJ r s hr hs => Y64 hI hJ hIJ hr hs
theorem Y7c {d : Db} {q : Qry} {w : List Int} : sumC (blocksOf d) (gW d q w) = prodN (fun i => sumC (blkAt (blocksOf d) (ofMark (mkN d q) (blocksOf d).length i)) (gW d q w)) (blocksOf d).length :=
 Y78 (Y23 d q w) (Y63 d q w) (fun k hk => (Y8g hk).1) fun I J hI hJ hIJ r s hr hs => Y64 hI hJ hIJ hr hs
theorem Y4q {S : Int -> Int -> Bool} : ∀ {A B : List (List Int)}, A.flatten = B.flatten -> (∀ a ∈ A, a ≠ []) -> (∀ b ∈ B, b ≠ []) -> (∀ a ∈ A, ∀ x ∈ a, ∀ y ∈ a, S x y = true) -> (∀ b ∈ B, ∀ x ∈ b, ∀ y ∈ b, S x y = true) -> (A.Pairwise fun a c => ∀ x ∈ a, ∀ y ∈ c, S x y = false) -> (B.Pairwise fun a c => ∀ x ∈ a, ∀ y ∈ c, S x y = false) -> A = B
 | [], [], _, _, _, _, _, _, _ => rfl
 | [], b :: B, h, _, hb, _, _, _, _ => by
  have := hb b (by simp);rw [List.flatten_nil, Jv] at h;exact absurd (List.append_eq_nil_iff.1 h.symm).1 this
 | a :: A, [], h, ha, _, _, _, _, _ => by
  have := ha a (by simp);rw [List.flatten_nil, Jv] at h;exact absurd (List.append_eq_nil_iff.1 h).1 this
 | a :: A, b :: B, h, ha, hb, sa, sb, pa, pb => by
  obtain ⟨pa1, pa2⟩ := J1e.1 pa;obtain ⟨pb1, pb2⟩ := J1e.1 pb;rw [Jv, Jv] at h;have key : ∀ {a b c : List Int} {A : List (List Int)} {F : List Int}, a ≠ [] -> b = a ++ c -> A.flatten = c ++ F -> (∀ x ∈ b, ∀ y ∈ b, S x y = true) -> (∀ e ∈ A, ∀ x ∈ a, ∀ y ∈ e, S x y = false) -> c = [] := by
   intro a b c A F hne e1 e2 hs hp;cases c with
   | nil => rfl
   | cons z c =>
    exfalso;obtain ⟨x, hx⟩ := List.exists_mem_of_ne_nil a hne;have hz : z ∈ A.flatten := by rw [e2]; simp
    obtain ⟨e, he, hze⟩ := J2l.1 hz;have h1 := hs x (by rw [e1]; simp [hx]) z (by rw [e1]; simp);rw [hp e he x hx z hze] at h1;cases h1
  have e : a = b /\ A.flatten = B.flatten := by
   rcases List.append_eq_append_iff.1 h with ⟨c, e1, e2⟩ | ⟨c, e1, e2⟩
   ·have := key (ha a (by simp)) e1 e2 (sb b (by simp)) pa1;subst this;simp at e1 e2;exact ⟨e1.symm, e2⟩
   ·have := key (hb b (by simp)) e1 e2 (sa a (by simp)) pb1;subst this;simp at e1 e2;exact ⟨e1, e2.symm⟩
  rw [e.1, Y4q e.2 (fun x hx => ha x (by simp [hx])) (fun x hx => hb x (by simp [hx])) (fun x hx => sa x (by simp [hx])) (fun x hx => sb x (by simp [hx])) pa2 pb2]
structure SubB (d : Db) (C : List (List Int)) : Prop where
 hv : validDb d = true
 sub : C.Sublist (blocksOf d)
theorem Y4r {L : List (List Int)} {p : Nat -> Bool} : (blkAt L ((List.range L.length).filter p)).Sublist L := by
 have := (List.filter_sublist (p := p) (l := List.range L.length)).map fun k => L.getD k [];have e := Y4e L;unfold blkAt at e ⊢
 rwa [e] at this
theorem SubB.mem {d : Db} {C : List (List Int)} (h : SubB d C) {b : List Int} (hb : b ∈ C) : b ∈ blocksOf d := h.sub.subset hb
theorem Y99 {A B : List (List Int)} (h : A.Sublist B) : A.flatten.Sublist B.flatten := by
 induction h with
 | slnil => exact List.Sublist.refl _
 | cons a _ ih => rw [Jv]; exact ih.trans (List.sublist_append_right ..)
 | cons_cons a _ ih => rw [Jv, Jv]; exact (List.Sublist.refl a).append ih
theorem SubB.flat {d : Db} {C : List (List Int)} (h : SubB d C) : C.flatten.Pairwise (· < ·) /\ (∀ x ∈ C.flatten, 0 <= x /\ x < (d.2.length : Int)) /\ C.flatten.length <= 14 := by
 have hb := (Y18 h.hv).blks;have hs : C.flatten.Sublist (blocksOf d).flatten := Y99 h.sub;refine ⟨hb.flat.sublist hs, fun x hx => ?_, ?_⟩
 ·obtain ⟨b, h1, h2⟩ := J2l.1 hx;exact hb.ins b (h.mem h1) x h2
 ·have := hs.length_le;rw [List.length_flatten (L := blocksOf d)] at this;have := hb.sum;omega
def kap (C : List (List Int)) (p : Int) : Int := C.flatten.getD p.toNat 0
theorem Y1a {C : List (List Int)} {p : Int} (h0 : 0 <= p) (h : p < (C.flatten.length : Int)) : kap C p = C.flatten[p.toNat]'(by omega) := Y3 (by omega)
theorem Y65 {d : Db} {C : List (List Int)} {p r : Int} (h0 : 0 <= p) (h : p < (C.flatten.length : Int)) (g0 : 0 <= r) (g : r < (C.flatten.length : Int)) : sameD (subDb d C.flatten) p.toNat r.toNat = sameD d (kap C p).toNat (kap C r).toNat := by
 unfold sameD;rw [Ya (show p.toNat < C.flatten.length by omega), Ya (show r.toNat < C.flatten.length by omega), Y1a h0 h, Y1a g0 g];rfl
theorem SubB.val {d : Db} {C : List (List Int)} (h : SubB d C) : validDb (subDb d C.flatten) = true := by
 obtain ⟨f1, f2, f3⟩ := h.flat;exact Y2i h.hv f1 f2 f3
theorem Y7d {d : Db} {C : List (List Int)} (h : SubB d C) : (blocksOf (subDb d C.flatten)).map (List.map (kap C)) = C := by
 have hvx := h.val;have hP := Y9g hvx;have hD := Y9g h.hv;have hlen : (subDb d C.flatten).2.length = C.flatten.length := by
  show (C.flatten.map _).length = _;rw [Jb]
 have hin : ∀ b ∈ blocksOf (subDb d C.flatten), ∀ x ∈ b, 0 <= x /\ x < (C.flatten.length : Int) := fun b hb x hx => by
  have := hP.ins b hb x hx
  rwa [hlen] at this
 refine Y4q (S := fun x y => sameD d x.toNat y.toNat) ?_ ?_ (fun b hb => hD.ne b (h.mem hb)) ?_ (fun b hb => hD.same b (h.mem hb)) ?_ ?_
 ·rw [<- List.map_flatten, Y1m hvx, hlen];unfold toI;rw [List.map_map];apply List.ext_getElem
  ·simp
  ·intro n h1 h2;simp only [List.getElem_map, List.getElem_range, Function.comp];rw [Y1a (by omega) (by omega)];simp
 ·intro a ha;obtain ⟨b, hb, rfl⟩ := J9.1 ha;have := hP.ne b hb;simpa using this
 ·intro a ha x hx y hy;obtain ⟨b, hb, rfl⟩ := J9.1 ha;obtain ⟨p, hp, rfl⟩ := J9.1 hx;obtain ⟨r, hr, rfl⟩ := J9.1 hy;have i1 := hin b hb p hp;have i2 := hin b hb r hr;have := hP.same b hb p hp r hr
  rwa [Y65 i1.1 i1.2 i2.1 i2.2] at this
 ·rw [J18];refine hP.apart.imp_of_mem fun {a b} ha hb k x hx y hy => ?_;obtain ⟨p, hp, rfl⟩ := J9.1 hx;obtain ⟨r, hr, rfl⟩ := J9.1 hy;have i1 := hin a ha p hp;have i2 := hin b hb r hr;have := k p hp r hr;rw [Y65 i2.1 i2.2 i1.1 i1.2] at this;show sameD d _ _ = false;cases hs : sameD d (kap C p).toNat (kap C r).toNat with
  | false => rfl
  | true => rw [hD.symm _ _ hs] at this; exact this
 ·refine (hD.apart.sublist h.sub).imp fun k x hx y hy => ?_;have := k x hx y hy;show sameD d _ _ = false;cases hs : sameD d x.toNat y.toNat with
  | false => rfl
  | true => rw [hD.symm _ _ hs] at this; exact this
theorem Ya0 {d : Db} {q : Qry} {C : List (List Int)} (h : SubB d C) {r : List Int} (hr : r.Pairwise (· < ·)) (hin : ∀ x ∈ r, 0 <= x /\ x < (C.flatten.length : Int)) (hl : r.length <= 14) : cov (subDb d C.flatten) q r = cov d q (r.map (kap C)) := by
 obtain ⟨f1, f2, f3⟩ := h.flat;have hlen : (subDb d C.flatten).2.length = C.flatten.length := by
  show (C.flatten.map _).length = _;rw [Jb]
 have hin' : ∀ x ∈ r, 0 <= x /\ x < ((subDb d C.flatten).2.length : Int) := fun x hx => by rw [hlen]; exact hin x hx
 have m1 : (r.map (kap C)).Pairwise (· < ·) := by
  rw [J18];refine hr.imp_of_mem fun {a b} ha hb hab => ?_;have i1 := hin a ha;have i2 := hin b hb;rw [Y1a i1.1 i1.2, Y1a i2.1 i2.2];exact Jp.1 f1 _ _ (by omega) (by omega) (by omega)
 have m2 : ∀ x ∈ r.map (kap C), 0 <= x /\ x < (d.2.length : Int) := fun x hx => by
  obtain ⟨p, hp, rfl⟩ := J9.1 hx;have i1 := hin p hp;rw [Y1a i1.1 i1.2];exact f2 _ (J5 _)
 rw [<- Y4l h.val hr hin' hl, <- Y4l h.hv m1 m2 (by rw [Jb]; exact hl)];have : subDb (subDb d C.flatten) r = subDb d (r.map (kap C)) := by
  unfold subDb;simp only [List.map_map, J1y, true_and];refine J1o fun x hx => ?_;have i1 := hin x hx;simp only [Function.comp];rw [Y1a i1.1 i1.2];exact Ya (d := d) (l := C.flatten) (show x.toNat < C.flatten.length by omega)
 rw [this]
theorem Y8h {w v : List Int} {k : Int -> Int} : ∀ {r : List Int}, (∀ x ∈ r, at_ 0 v x = at_ 0 w (k x)) -> pw v r = pw w (r.map k)
 | [], _ => rfl
 | x :: r, h => by
  simp only [Jy, pw];rw [h x (by simp), Y8h fun y hy => h y (by simp [hy])]
def subW (C : List (List Int)) (w : List Int) : List Int := C.flatten.map (at_ 0 w)
theorem Y24 {d : Db} {C : List (List Int)} {w : List Int} (h : SubB d C) (hw : validWeights d w = true) : validWeights (subDb d C.flatten) (subW C w) = true := by
 have hg := Y11 hw;obtain ⟨_, f2, _⟩ := h.flat;unfold validWeights weightsIn subW;rw [h.val, Jd, Ja, J2, Jw];refine ⟨by show (C.flatten.map _).length = (C.flatten.map _).length; rw [Jb, Jb], fun x hx => ?_⟩;obtain ⟨p, hp, rfl⟩ := J9.1 hx;have := f2 p hp;rw [J2];exact hg.wts p this.1 this.2
theorem Y3h {f g : Nat -> Int} : ∀ n, sumN f n - sumN g n = sumN (fun k => f k - g k) n
 | 0 => rfl
 | n + 1 => by
  have := Y3h (f := f) (g := g) n;simp only [sumN];omega
theorem Y3w {d : Db} {q : Qry} {C : List (List Int)} {w : List Int} (h : SubB d C) (hw : validWeights d w = true) : tw (subW C w) (blocksOf (subDb d C.flatten)) - sumN (covW (subDb d C.flatten) q (subW C w)) (sizeP (blocksOf (subDb d C.flatten))) = sumC C (gW d q w) := by
 have hvw := Y24 h hw;have hx := wOk hvw;have hb := hx.g.blks;have hlen : (subDb d C.flatten).2.length = C.flatten.length := by
  show (C.flatten.map _).length = _;rw [Jb]
 rw [<- hx.sum, Y3h];have e : sumN (fun k => pw (subW C w) (nth (blocksOf (subDb d C.flatten)).reverse k) - covW (subDb d C.flatten) q (subW C w) k) (sizeP (blocksOf (subDb d C.flatten))) = sumN (fun k => gW d q w ((nth (blocksOf (subDb d C.flatten)).reverse k).map (kap C))) (sizeP (blocksOf (subDb d C.flatten)).reverse) := by
  rw [Yl];refine Yj fun k _ => ?_;obtain ⟨r1, r2, r3, r4⟩ := hx.rep k;have r2' : ∀ x ∈ repN (blocksOf (subDb d C.flatten)) k, 0 <= x /\ x < (C.flatten.length : Int) := fun x hx' => by have := r2 x hx'; rwa [hlen] at this
  have hc := Ya0 (q := q) h r1 r2' r3;have hm : cov d q ((repN (blocksOf (subDb d C.flatten)) k).map (kap C)) = cov d q ((nth (blocksOf (subDb d C.flatten)).reverse k).map (kap C)) := Y2r fun x => by
   unfold repN;rw [List.map_reverse, J17]
  have hp : pw (subW C w) (nth (blocksOf (subDb d C.flatten)).reverse k) = pw w ((nth (blocksOf (subDb d C.flatten)).reverse k).map (kap C)) := Y8h fun x hx' => by
   have i1 := r2' x (by unfold repN; exact J17.2 hx');unfold subW;rw [Y3l i1.1 (by rw [Jb]; exact i1.2), List.getElem_map, Y1a i1.1 i1.2]
  unfold covW gW;rw [hc, hm, <- hp];cases cov d q ((nth (blocksOf (subDb d C.flatten)).reverse k).map (kap C)) <;> simp
 rw [e, Y5q (g := fun r => gW d q w (r.map (kap C))) hb.rev.1, <- Y5r, List.map_reverse, Y7d h];exact Y2k (List.reverse_perm C) (Y23 d q w)
theorem Y3x {d : Db} {q : Qry} {C : List (List Int)} {w : List Int} (h : SubB d C) (hw : validWeights d w = true) : 0 <= sumC C (gW d q w) /\ sumC C (gW d q w) <= 374813367582081024 := by
 have hx := wOk (Y24 h hw);have h1 := hx.bound q (Jx _);have h2 := hx.top;have h3 := Y3w (q := q) h hw;have h4 := Y22 (f := covW (subDb d C.flatten) q (subW C w)) (g := fun k => pw (subW C w) (nth (blocksOf (subDb d C.flatten)).reverse k)) (fun k => by
  have := hx.pos k;unfold covW;split <;> omega) (sizeP (blocksOf (subDb d C.flatten)))
 rw [hx.sum] at h4;omega
theorem Y9a {l : List Int} (h : l.Pairwise (· < ·)) : sortI l [] = l := by
 have hn : l.Nodup := h.imp fun hab e => by omega
 exact Y1d (Yu l [] hn (by simp) (by simp)) h fun x => by rw [Yf]; simp
def compC (d : Db) (q : Qry) (i : Nat) : List (List Int) := blkAt (blocksOf d) (ofMark (mkN d q) (blocksOf d).length i)
theorem Y8i {d : Db} {q : Qry} (hv : validDb d = true) (i : Nat) : SubB d (compC d q i) := ⟨hv, Y4r⟩
theorem Y6w {d : Db} {q : Qry} (i : Nat) : partI (markOf d q) (blocksOf d).length i = toI (ofMark (mkN d q) (blocksOf d).length i) := by
 unfold partI ofMark;congr 1;refine List.filter_congr fun k hk => ?_;have := (Y8g (q := q) (Ji.1 hk)).2;rw [J1b, J2, J2];omega
theorem Y35 {mk : List Int} {n m : Nat} : ∀ {t : Nat}, m <= t -> ∃ rest, partsOf mk n t = partsOf mk n m ++ rest
 | 0, h => by
  obtain rfl : m = 0 := by omega
  exact ⟨[], by simp⟩
 | t + 1, h => by
  by_cases e : m = t + 1
  ·subst e; exact ⟨[], by simp⟩
  ·obtain ⟨rest, hr⟩ := Y35 (mk := mk) (n := n) (m := m) (t := t) (by omega);refine ⟨rest ++ (if (partI mk n t).length > 0 then [partI mk n t] else []), ?_⟩;simp only [partsOf];rw [hr, J16]
theorem Y3i {d : Db} {q : Qry} {σ R : Type} (f : Nat -> σ -> Nat -> Option R) (st : Nat -> σ) (Q : Option R -> Prop)
  (hend : ∀ K, Q (f (K + 1) (st (blocksOf d).length) (partsOf (markOf d q) (blocksOf d).length (blocksOf d).length).length))
  (hskip : ∀ m, m < (blocksOf d).length -> compC d q m = [] -> st (m + 1) = st m)
  (hstep : ∀ K m j, m < (blocksOf d).length -> ∀ hj : j < (partsOf (markOf d q) (blocksOf d).length (blocksOf d).length).length, (partsOf (markOf d q) (blocksOf d).length (blocksOf d).length)[j] = toI (ofMark (mkN d q) (blocksOf d).length m) -> Q (f K (st (m + 1)) (j + 1)) -> Q (f (K + 1) (st m) j)) :
  ∀ (t m K : Nat), m + t = (blocksOf d).length -> t < K -> Q (f K (st m) (partsOf (markOf d q) (blocksOf d).length m).length)
 | 0, m, K, h, hK => by
  obtain rfl : m = (blocksOf d).length := by omega
  obtain ⟨K, rfl⟩ : ∃ k, K = k + 1 := ⟨K - 1, by omega⟩;exact hend K
 | t + 1, m, K, h, hK => by
  have hm : m < (blocksOf d).length := by omega
  by_cases h0 : (partI (markOf d q) (blocksOf d).length m).length > 0
  ·obtain ⟨K, rfl⟩ : ∃ k, K = k + 1 := ⟨K - 1, by omega⟩;obtain ⟨rest, hr⟩ := Y35 (mk := markOf d q) (n := (blocksOf d).length) (m := m + 1) (t := (blocksOf d).length) (by omega);simp only [partsOf] at hr;rw [Jf h0] at hr;have hj : (partsOf (markOf d q) (blocksOf d).length m).length < (partsOf (markOf d q) (blocksOf d).length (blocksOf d).length).length := by
    rw [hr];simp only [J11, J1f];omega
   refine hstep K m _ hm hj ?_ ?_
   ·rw [<- Y6w];have : (partsOf (markOf d q) (blocksOf d).length (blocksOf d).length)[(partsOf (markOf d q) (blocksOf d).length m).length]? = some (partI (markOf d q) (blocksOf d).length m) := by
     rw [hr, J16, List.getElem?_append_right (Jx _)];simp
    rw [Jh hj] at this;exact Option.some.inj this
   ·have := Y3i f st Q hend hskip hstep t (m + 1) K (by omega) (by omega);simp only [partsOf] at this;rw [Jf h0, J11, J1f] at this;exact this
  ·have := Y3i f st Q hend hskip hstep t (m + 1) K (by omega) (by omega);simp only [partsOf] at this;rw [Jj h0, Jl] at this;have hC : compC d q m = [] := by
    rw [Y6w] at h0;unfold toI at h0;rw [Jb] at h0;unfold compC blkAt;rw [J23.1 (by omega : (ofMark (mkN d q) (blocksOf d).length m).length = 0)];rfl
   rw [hskip m hm hC] at this;exact this
theorem Y8j {mk : Nat -> Nat} {n i : Nat} : ∀ k ∈ ofMark mk n i, k < n := fun k hk => Ji.1 (Jm.1 hk).1
theorem Ya1 {l : List Nat} {k : Nat} (hk : k < (toI l).length) : (toI l)[k] = ((l[k]'(by unfold toI at hk; simpa using hk) : Nat) : Int) := by
 simp [toI]
theorem Y8k {L : List (List Int)} {I : List Nat} {k : Nat} (hk : k < I.length) : (blkAt L (I.take (k + 1))).flatten = (blkAt L (I.take k)).flatten ++ L.getD I[k] [] := by
 unfold blkAt;rw [J6 hk, Jg, J1p];simp
theorem Y50 {L : List (List Int)} {I : List Nat} (k : Nat) : (blkAt L (I.take k)).flatten.length <= (blkAt L I).flatten.length := by
 unfold blkAt;have : (I.map fun k => L.getD k []) = (I.take k).map (fun k => L.getD k []) ++ (I.drop k).map (fun k => L.getD k []) := by
  rw [<- Jg, J2b]
 rw [this, J1p, J11];omega
theorem Y3y {f : Nat -> Int} {n : Nat} : prodN f (n + 1) = prodN f n * f n := rfl
theorem Y9b {d : Db} {q : Qry} {w : List Int} {m : Nat} (h : compC d q m = []) : sumC (compC d q m) (gW d q w) = 1 := by
 rw [h];exact Y63 d q w
theorem Y7e {d : Db} {q : Qry} {w : List Int} (hv : validWeights d w = true) (m : Nat) : 0 <= prodN (fun i => sumC (compC d q i) (gW d q w)) m /\ prodN (fun i => sumC (compC d q i) (gW d q w)) m <= 374813367582081024 := by
 have := Ya9 (d := d) (q := q) (w := w) m;show 0 <= prodN (fun i => sumC (blkAt (blocksOf d) (ofMark (mkN d q) (blocksOf d).length i)) (gW d q w)) m /\ _;unfold compC;rw [<- this];exact Y3x ⟨(Y11 hv).vb, Y4r⟩ hv
theorem Y3z {d : Db} {w : List Int} (h : SmallDb d) (hv : validWeights d w = true) (hN : 1048576 < N) : Z18 N d w = some (tw w (blocksOf d)) := by
 have hg := Y11 hv;have := hg.len;have := hg.few;obtain ⟨t, t1, t2⟩ := Y6e (N := N) (w := w) h (by omega) hN;rw [Y89 h hv hN] at t2;rw [Option.some.inj t2];exact t1
theorem Y6h {d : Db} {q : Qry} {w : List Int} (hw : validWeights d w = true) : tw w (blocksOf d) - sumN (covW d q w) (sizeP (blocksOf d)) = sumC (blocksOf d) (gW d q w) := by
 have hx := wOk hw;have hb := hx.g.blks;rw [<- hx.sum, Y3h];have e : sumN (fun k => pw w (nth (blocksOf d).reverse k) - covW d q w k) (sizeP (blocksOf d)) = sumN (fun k => gW d q w (nth (blocksOf d).reverse k)) (sizeP (blocksOf d).reverse) := by
  rw [Yl];refine Yj fun k _ => ?_;have hm : cov d q (repN (blocksOf d) k) = cov d q (nth (blocksOf d).reverse k) := Y2r fun x => by
   unfold repN;rw [J17]
  unfold covW gW;rw [hm];cases cov d q (nth (blocksOf d).reverse k) <;> simp
 rw [e, Y5q hb.rev.1];exact Y2k (List.reverse_perm _) (Y23 d q w)
theorem byC2 {R} {Q : Option ((Int × Int) × Bool) -> Prop} {d : Db} {q : Qry} {w : List Int} {C P L : List (List Int)} {no j : Int} (hs : SmallDb d) (hC : SubB d C) (hw : validWeights d w = true) (hq : q.2.2.length <= 1048576) (hN : 1048576 < N)
  (hQ : Q (R w d.1 d.2 q.1 q.2.1 q.2.2 0 0 L P (w64 (no * sumC C (gW d q w))) (w64 (j + 1)))) : Q (Z0z R N N w d.1 d.2 q.1 q.2.1 q.2.2 0 0 L P no j C.flatten (subDb d C.flatten).1 (subDb d C.flatten).2 [] 0) := by
 obtain ⟨f1, f2, f3⟩ := hC.flat;have hg := Y11 hw;have hlw := hg.len;have hvw := Y24 hC hw;have hsx := Y4f hs f2 f3;exact Ys (fun K (k : Nat) => Z0z R N K w d.1 d.2 q.1 q.2.1 q.2.2 0 0 L P no j C.flatten (subDb d C.flatten).1 (subDb d C.flatten).2 ((C.flatten.take k).map (at_ 0 w)) (k : Int)) (fun k => k <= C.flatten.length) (fun k => C.flatten.length - k) Q (fun K k hk ih => by
  simp only [Z0z, Z3n];by_cases hj : k < C.flatten.length
  ·have c1 : (k : Int) < (C.flatten.length : Int) := by omega
   have i1 := f2 _ (J5 hj);have c2 : inb C.flatten[k] w = true := Yb i1.1 (by rw [hlw]; exact i1.2);have hst := ih (k + 1) hj (by omega);rw [J6 hj, Jg] at hst;rw [J1 c1, J7, Y0 hj, grd_true, Y2 hj, c2, grd_true, Y4 (by omega) (by rw [Jb, Jt, J1f]; omega), grd_true, Y1];exact hst
  ·have : k = C.flatten.length := by omega
   subst this;have e1 : Z18 N ((subDb d C.flatten).1, (subDb d C.flatten).2) (subW C w) = some (tw (subW C w) (blocksOf (subDb d C.flatten))) := Y3z hsx hvw hN;have e2 : Z78 N ((subDb d C.flatten).1, (subDb d C.flatten).2) (subW C w) (q.1, q.2.1, q.2.2) = some (sumN (covW (subDb d C.flatten) q (subW C w)) (sizeP (blocksOf (subDb d C.flatten)))) := Ya6 hsx hvw hq hN;have e3 : (C.flatten.take C.flatten.length).map (at_ 0 w) = subW C w := by rw [J12]; rfl
   have hb := Y3x (q := q) hC hw;have hpv := Y3w (q := q) hC hw;rw [J4 (Je _), J3, e3, e1, J0, e2, J0, Y5 (x := tw (subW C w) (blocksOf (subDb d C.flatten)) - sumN (covW (subDb d C.flatten) q (subW C w)) (sizeP (blocksOf (subDb d C.flatten)))), hpv];exact hQ) N 0 (by omega) (by omega)
theorem byC1 {R} {Q : Option ((Int × Int) × Bool) -> Prop} {d : Db} {q : Qry} {w : List Int} {P : List (List Int)} {no : Int} {j m : Nat} (hs : SmallDb d) (hw : validWeights d w = true) (hq : q.2.2.length <= 1048576) (hN : 1048576 < N) (hj : j < P.length) (hP : P[j] = toI (ofMark (mkN d q) (blocksOf d).length m))
  (hQ : Q (R w d.1 d.2 q.1 q.2.1 q.2.2 0 0 (blocksOf d) P (w64 (no * sumC (compC d q m) (gW d q w))) (w64 ((j : Int) + 1)))) : Q (Z10 R N N w d.1 d.2 q.1 q.2.1 q.2.2 0 0 (blocksOf d) P no (j : Int) [] 0) := by
 have hv := (Y11 hw).vb;have hC := Y8i (q := q) hv m;obtain ⟨f1, f2, f3⟩ := hC.flat;have hb := (Y18 hv).blks;have hbl := hb.len;have hIl : (ofMark (mkN d q) (blocksOf d).length m).length <= 14 := by
  unfold ofMark;have := Jo (fun k => decide (mkN d q k = m)) (List.range (blocksOf d).length);rw [Jr] at this;omega
 have hTl : (toI (ofMark (mkN d q) (blocksOf d).length m)).length = (ofMark (mkN d q) (blocksOf d).length m).length := by unfold toI; rw [Jb]
 exact Ys (fun K (k : Nat) => Z10 R N K w d.1 d.2 q.1 q.2.1 q.2.2 0 0 (blocksOf d) P no (j : Int) (blkAt (blocksOf d) ((ofMark (mkN d q) (blocksOf d).length m).take k)).flatten (k : Int)) (fun k => k <= (ofMark (mkN d q) (blocksOf d).length m).length) (fun k => (ofMark (mkN d q) (blocksOf d).length m).length - k) Q (fun K k hk ih => by
  simp only [Z10, Z3o, Y0 hj, grd_true, Y2 hj, hP, hTl];by_cases hk2 : k < (ofMark (mkN d q) (blocksOf d).length m).length
  ·have c1 : (k : Int) < ((ofMark (mkN d q) (blocksOf d).length m).length : Int) := by omega
   have hk3 : k < (toI (ofMark (mkN d q) (blocksOf d).length m)).length := by omega
   have hI := Y8j _ (J5 hk2);have hst := ih (k + 1) hk2 (by omega);rw [Y8k hk2, Y3 hI] at hst;have h14 := Y50 (L := blocksOf d) (I := ofMark (mkN d q) (blocksOf d).length m) k;have h14' : (blkAt (blocksOf d) (ofMark (mkN d q) (blocksOf d).length m)).flatten.length <= 14 := f3;have hbk := hb.each _ (J5 hI);rw [J1 c1, J7, Y0 hk3, grd_true, Y2 hk3, Ya1 hk3, Y0 hI, grd_true, Y2 hI, Y4, grd_true, Y1];exact hst
  ·have : k = (ofMark (mkN d q) (blocksOf d).length m).length := by omega
   subst this;have e3 : blkAt (blocksOf d) ((ofMark (mkN d q) (blocksOf d).length m).take (ofMark (mkN d q) (blocksOf d).length m).length) = compC d q m := by rw [J12]; rfl
   have e1 : Z17 N (compC d q m).flatten = some (compC d q m).flatten := by rw [Y5t (by omega) hN, Y9a f1]
   have e2 : Z1q N (d.1, d.2) (compC d q m).flatten = some (subDb d (compC d q m).flatten, true) := Y6q hs hv f1 f2 f3 hN;rw [J4 (Je _), J3, e3, e1, J0, e2, J0];exact byC2 hs hC hw hq hN hQ) N 0 (by omega) (by omega)
theorem Yaa {d : Db} {w : List Int} {q : Qry} (h : SmallDb d) (hqf : queryFor d q = true) (hv : validWeights d w = true) (hq : q.2.2.length <= 1048576) (hN : 1048576 < N) : Z0e N d w q = (Z32 N (sumN (covW d q w) (sizeP (blocksOf d))) (tw w (blocksOf d))).bind fun r => some (r, true) := by
 have hg := Y11 hv;have hl := hg.len;have hf := hg.few;unfold Z0e Z2s;rw [Yr h hq hN, J0, hqf, Jc, J3, Yz h (by omega) hN, J0, hv, Jc, J3, Yi h hN, J0, Y8d h hqf hq hN, J0];have hT := (wOk hv).top;have hbl := (Y18 (Y6g hqf)).blks.len;have hfac : prodN (fun i => sumC (compC d q i) (gW d q w)) (blocksOf d).length = tw w (blocksOf d) - sumN (covW d q w) (sizeP (blocksOf d)) := by
  rw [Y6h hv];exact Y7c.symm
 have hb0 := (wOk hv).bound q (Jx _);have h0 : (partsOf (markOf d q) (blocksOf d).length 0).length = 0 := rfl;have := Y3i (d := d) (q := q) (fun K (s : Int) (j : Nat) => Z0m N K w d.1 d.2 q.1 q.2.1 q.2.2 0 0 (blocksOf d) (partsOf (markOf d q) (blocksOf d).length (blocksOf d).length) s (j : Int)) (fun m => prodN (fun i => sumC (compC d q i) (gW d q w)) m) (fun o => o = (Z32 N (sumN (covW d q w) (sizeP (blocksOf d))) (tw w (blocksOf d))).bind fun r => some (r, true)) (fun K => by
  have e1 : Z18 N (d.1, d.2) w = some (tw w (blocksOf d)) := Y3z h hv hN;simp only [zS, Z0m, Z21, Je, e1, hfac];rw [Y5, show tw w (blocksOf d) - (tw w (blocksOf d) - sumN (covW d q w) (sizeP (blocksOf d))) = sumN (covW d q w) (sizeP (blocksOf d)) by omega])
  (fun m hm hC => by rw [Y3y, Y9b hC, Int.mul_one])
  (fun K m j hm hj hP hQ => by
   have hjl := Y1n (markOf d q) (blocksOf d).length (blocksOf d).length;have c1 : (j : Int) < ((partsOf (markOf d q) (blocksOf d).length (blocksOf d).length).length : Int) := by omega
   have hpb := Y7e (q := q) hv (m + 1);simp only [zS, Z0m, Z21, c1];refine byC1 (m := m) (Q := fun o => o = (Z32 N (sumN (covW d q w) (sizeP (blocksOf d))) (tw w (blocksOf d))).bind fun r => some (r, true)) h hv hq hN hj hP ?_;rw [Y3y] at hpb hQ;rw [Y5, Y1];exact hQ) (blocksOf d).length 0 N (by omega) (by omega)
 rw [h0] at this;exact this
theorem Y66 {d : Db} {w : List Int} {q : Qry} (h : SmallDb d) (hw : w.length <= 1048576) (hq : q.2.2.length <= 1048576) (hN : 1048576 < N) : ∃ x, Z0e N d w q = some x /\ Z31 N d w q = some x := by
 by_cases hok : queryFor d q = true /\ validWeights d w = true
 ·obtain ⟨hqf, hv⟩ := hok;have hwo := wOk hv;have hg := hwo.g;have hb := hg.blks;obtain ⟨x, e1, e2⟩ := Ya8 (N := N) (hwo.bound q (Jx _)).1 hwo.top.1 hwo.top.2 hN;refine ⟨(x, true), by rw [Yaa h hqf hv hq hN, e1]; rfl, ?_⟩;unfold Z31 Z7a;rw [Y1g h hq hN, J0, hqf, Jc, J3, Y10 h hw hN, J0, hv, Jc, J3, Y4z h hq hN, J0, Y42 h hg.vb hN, J0, Y57 (by have := hb.len; omega) (by have := hb.sum; omega) hN, J0, Y6u];exact Ya7 h hv hN e2
 ·unfold Z0e Z2s Z31 Z7a;rw [Yr h hq hN, J0, Y1g h hq hN, J0];cases hqf : queryFor d q with
  | false => exact ⟨_, rfl, rfl⟩
  | true =>
   rw [Jc, J3, J3, Yz h hw hN, J0, Y10 h hw hN, J0];cases hv : validWeights d w with
   | false => exact ⟨_, rfl, rfl⟩
   | true => exact absurd ⟨hqf, hv⟩ hok
theorem law_ProbabilityByComponents (hN : 1048576 < N) {d : T_Database} {w : List Int} {q : T_Query} (hd : in_Database d) (hq : in_Query q) : laws_FnExactProbabilityByComponents N d w q = some true := by
 unfold laws_FnExactProbabilityByComponents;by_cases h0 : (w.length : Int) > 1048576
 ·rw [J1 h0]; rfl
 rw [J4 h0, J3, Y5d hd (by omega) (by omega) hN, J0];by_cases h1 : (s_Database d : Int) <= 1048576
 case neg => rw [Y8 h1]; rfl
 rw [Yd h1, Y6k (by omega), J3, Y7x hq (by omega) (by omega) hN, J0];by_cases h3 : (s_Query q : Int) <= 1048576 - (s_Database d : Int)
 case neg => rw [Y8 h3]; rfl
 rw [Yd h3, Y6k (by omega), J3];have hb : b_Database d := Y4x (by omega);have hbq : b_Query q := Y71 (by omega);have hbw : b_IntS w := by show w.length <= 1048576; omega
 have hs := Y9q hb;have hq4 : q.2.2.length <= 1048576 := hbq.2;obtain ⟨x, e1, e2⟩ := Y66 (N := N) (w := w) hs (by omega) hq4 hN;have e3 : Z0x N d w q = some (x.1, x.2) := by
  unfold Z0x;rw [e2];rfl
 simp only [zS, Y5b hb hN, Y1u hbw hN, Y7v hbq hN, e1, e3, Y1v hbw hN, Y5c hb hN, Y7w hbq hN, Z5m];simp
end Go.PL
