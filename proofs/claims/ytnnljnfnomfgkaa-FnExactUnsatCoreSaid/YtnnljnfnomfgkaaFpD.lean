/- How Go values lie in memory, and an evaluator of code with its soundness (part 4 of 5). Conditions: those that stand in each theorem; nothing is assumed of any program. -/
import Derived.Test.YtnnljnfnomfgkaaFpC
import Derived.KernelRfl
import Derived.ProofKit
import Derived.ChangeOld
import Derived.WideShapes
import Derived.ChangeMaps5

/- A whole function: its contract. Conditions: none. -/
namespace Go.FP
open Go.RowKit
set_option linter.unusedVariables false
set_option linter.unusedSimpArgs false

/-- What an argument's value is, in any state that may read it. -/
def ArgOk (S : Nat → Prop) (w : World) (c : Cx) (av : AV) (v : Value) (cells : List Value) : Prop :=
  ∀ (s : St) (r : Nat), s.w = w → (∀ b, S b → RoS c s b) → (∀ l, s.bs r l = []) → s.cs r = cells → AVRel c s r av v ∧ av.refs = [] ∧ av.ptrs = []

theorem param_ok {S : Nat → Prop} {w : World} {c : Cx} {rv : RV} {v : Value} {av : AV} (h : RVRel S w rv v) (hp : paramAV rv = some av) : ∃ cells, ArgOk S w c av v cells := by
  cases rv with
  | val t x =>
    obtain ⟨ch, rfl, hrep⟩ := h
    simp only [paramAV, Option.some.injEq] at hp
    subst hp
    obtain ⟨h1, h2⟩ := leaves_ro t (fun _ => .at_ .ro) 0 hrep
    refine ⟨ch, fun s r hw hS hb hc => ⟨?_, leaves_ro_refs t x 0, rfl⟩⟩
    refine ⟨?_, by rw [hc]; exact h1, fun l _ => hb _, fun l lf u hl hu => ?_⟩
    · rw [hc]
      exact (KCells_mkV (w := s.w) (fun ha => by rw [hrep.len]; exact sz_one ha)).bare (hb 0)
    · rw [hc] at hu
      have hm := leaves_bare t x 0 lf (mem_leafAt hl)
      have := (h2 l lf u (by rw [← leafAt_eq]; exact hl) hu).1
      refine LeafRel.of_held (by rw [hm]; rfl) (hb _) ?_
      obtain ⟨t', x', m⟩ := lf
      simp only at hm
      subst hm
      show Rep (RoS c s) s.w _ _ _ _ _
      rw [hw]
      exact Rep.move (fun b hb _ => ⟨hS b hb, rfl⟩) (by simp) this
  | ptr t x =>
    obtain ⟨a, ch, rfl, hSa, hlt, hcell, hrep⟩ := h
    simp only [paramAV, Option.some.injEq] at hp
    subst hp
    obtain ⟨h1, h2⟩ := leaves_ro t (fun _ => .at_ .ro) 0 hrep
    refine ⟨[], fun s r hw hS hb hc => ⟨?_, by simp only [AV.refs, List.append_nil]; exact leaves_ro_refs t x 0, rfl⟩⟩
    refine ⟨hb, a, rfl, fun l lf hl => ?_, hS _ hSa, by rw [hw]; exact hlt⟩
    have hm := leaves_bare t x 0 lf (mem_leafAt hl)
    refine ⟨by rw [hm]; rfl, ?_⟩
    have hl' := hl
    rw [leafAt_eq] at hl'
    have hll : l < ch.length := by rw [← h1]; exact (List.getElem?_eq_some_iff.1 hl').1
    refine ⟨ch[l], by rw [hw]; exact hcell l _ (List.getElem?_eq_getElem hll), ?_⟩
    have := (h2 l lf ch[l] hl' (List.getElem?_eq_getElem hll)).1
    obtain ⟨t', x', m⟩ := lf
    simp only at hm
    subst hm
    show Rep (RoS c s) s.w _ _ _ _ _
    rw [hw]
    exact Rep.move (fun b hb _ => ⟨hS b hb, rfl⟩) (by simp) this
  | clo f caps =>
    obtain ⟨us, rfl, hps⟩ := h
    simp only [paramAV, Option.some.injEq] at hp
    subst hp
    exact ⟨[], fun s r hw hS hb hc => ⟨⟨hb, us, rfl, hps.move (fun b hb _ => ⟨hS b hb, by rw [hw]⟩)⟩, rfl, rfl⟩⟩

theorem params_ok {S : Nat → Prop} {w : World} {c : Cx} : ∀ {args : List RV} {vals : List Value} {as : List AV}, RVRels S w args vals → paramAVs args = some as → vals.length = as.length ∧ ∃ cs : Nat → List Value, ∀ r, r < as.length → ArgOk S w c (get as r) (vals.getD r undef) (cs r)
  | [], vals, as, h, hp => by
    simp only [paramAVs, Option.some.injEq] at hp
    subst hp
    exact ⟨by rw [show vals = [] from h]; rfl, fun _ => [], fun r hr => by simp at hr⟩
  | rv :: args, vals, as, ⟨v, vals', e, h1, h2⟩, hp => by
    simp only [paramAVs] at hp
    cases ha : paramAV rv with
    | none => rw [ha] at hp; simp at hp
    | some av =>
      cases has : paramAVs args with
      | none => rw [ha, has] at hp; simp at hp
      | some as' =>
        rw [ha, has] at hp
        simp only [Option.some.injEq] at hp
        subst hp; subst e
        obtain ⟨k1, cs, k2⟩ := params_ok (c := c) h2 has
        obtain ⟨cells, k3⟩ := param_ok (c := c) h1 ha
        refine ⟨by simp [k1], fun r => match r with | 0 => cells | r + 1 => cs r, fun r hr => ?_⟩
        cases r with
        | zero => exact k3
        | succ r => exact k2 r (by simpa using hr)

theorem get_append_lt : ∀ (as bs : Env) (r : Nat), r < as.length → get (as ++ bs) r = get as r
  | [], bs, r, h => by simp at h
  | a :: as, bs, 0, _ => rfl
  | a :: as, bs, r + 1, h => get_append_lt as bs r (by simpa using h)
theorem get_append_ge : ∀ (as bs : Env) (r : Nat), as.length ≤ r → get (as ++ bs) r = get bs (r - as.length)
  | [], bs, r, h => by simp
  | a :: as, bs, 0, h => by simp at h
  | a :: as, bs, r + 1, h => by
    simp only [List.cons_append, get, List.length_cons, Nat.add_sub_add_right]
    exact get_append_ge as bs r (by simpa using h)
theorem get_rep : ∀ (n r : Nat) (v : AV), r < n → get (List.replicate n v) r = v
  | 0, r, v, h => by omega
  | n + 1, 0, v, _ => rfl
  | n + 1, r + 1, v, h => get_rep n r v (by omega)

def cx0 (S : Nat → Prop) (w : World) : Cx := ⟨S, w.heap.size, w, fun _ => default, fun _ => False⟩

/-- The state at a function's entry. -/
theorem entry {S : Nat → Prop} {w : World} {args : List RV} {vals : List Value} {as : List AV} (h : RVRels S w args vals) (hp : paramAVs args = some as) {n : Nat} (hn : as.length ≤ n) :
    RE (cx0 S w) (as ++ List.replicate (n - as.length) .skip) (vals.toArray ++ Array.replicate (n - vals.toArray.size) undef) w := by
  obtain ⟨k1, cs, k2⟩ := params_ok (c := (cx0 S w)) h hp
  have hsz : vals.toArray.size = as.length := by simpa using k1
  let env : Env := as ++ List.replicate (n - as.length) .skip
  let tmps : Array Value := vals.toArray ++ Array.replicate (n - vals.toArray.size) undef
  have hel : env.length = n := by simp [env]; omega
  have htl : tmps.size = n := by simp [tmps]; omega
  let bs : Nat → Nat → List Nat := fun _ _ => []
  let s : St := SS env noP tmps noV w cs bs
  have hRoS : ∀ b, S b → RoS (cx0 S w) s b := fun b hb => ⟨fun _ _ => by simp [s, bs], .inl hb⟩
  have hget : ∀ r, r < as.length → ovl env noP r = get as r ∧ ovlT tmps noV r = vals.getD r undef := fun r hr => by
    refine ⟨by rw [ovl_lt (by omega)]; exact get_append_lt _ _ _ hr, ?_⟩
    show (if r < tmps.size then tmps.getD r undef else _) = _
    rw [if_pos (by omega)]
    have : r < vals.length := by omega
    simp [tmps, this, Array.getD_eq_getD_getElem?, Array.getElem?_append, List.getD_eq_getElem?_getD]
  have hav : ∀ r, AVRel (cx0 S w) s r (ovl env noP r) (ovlT tmps noV r) ∧ (ovl env noP r).refs = [] ∧ (ovl env noP r).ptrs = [] := fun r => by
    by_cases h1 : r < as.length
    · rw [(hget r h1).1, (hget r h1).2]
      exact k2 r h1 s r rfl hRoS (fun _ => rfl) rfl
    · by_cases h2 : r < n
      · have e1 : ovl env noP r = .skip := by
          rw [ovl_lt (by omega)]
          show get (as ++ _) r = _
          rw [get_append_ge _ _ _ (by omega), get_rep _ _ _ (by omega)]
        have e2 : ovlT tmps noV r = undef := by
          show (if r < tmps.size then tmps.getD r undef else _) = _
          rw [if_pos (by omega)]
          simp only [tmps, Array.getD_eq_getD_getElem?]
          rw [Array.getElem?_append_right (by omega), Array.getElem?_replicate]
          split <;> rfl
        rw [e1, e2]
        exact ⟨⟨rfl, fun _ => rfl⟩, rfl, rfl⟩
      · have e1 : ovl env noP r = .undef := by rw [ovl_ge (by omega)]; rfl
        rw [e1]
        exact ⟨fun _ => rfl, rfl, rfl⟩
  refine ⟨noV, by rw [hel, htl], cs, bs, ⟨Below.refl _ _, Nat.le_refl _, fun r l b hb => by simp [bs] at hb, fun r l r' l' b hb => by simp [bs] at hb, fun r l => List.nodup_nil, fun r => (hav r).1, fun b hb => hb.elim⟩, fun r => ?_⟩
  rw [(hav r).2.1, (hav r).2.2]
  exact ⟨by simp, by simp⟩

/-! ### the entry of a function that writes its first argument's rows -/
def cxM (S : Nat → Prop) (base : Nat) (w : World) (ch : List Value) (b0 : List Nat) : Cx := ⟨S, base, w, fun i => ch.getD i undef, fun b => b < w.heap.size ∧ b ∉ b0⟩

theorem leaves_pn {S : Nat → Prop} {w : World} : ∀ (t : Ty) {cs : List Value} {x : t.D} {bs : List Nat} (n : Nat), Rep S w t .dp cs x bs →
    (leaves t x (fun i => .at_ (.pn i)) n).length = cs.length ∧ (∀ lf ∈ leaves t x (fun i => .at_ (.pn i)) n, lf.m.settled = true) ∧ ∃ bds : List (List Nat), bds.length = cs.length ∧ bs = bds.flatten ∧
      ∀ (l : Nat) (lf : Leaf) (u : Value), (leaves t x (fun i => .at_ (.pn i)) n)[l]? = some lf → cs[l]? = some u → ∃ m, lf.m = .at_ m ∧ (m = .ro ∨ m = .pn (n + l)) ∧ Rep S w lf.t m [u] lf.x (bds.getD l [])
  | .int k, cs, x, bs, n, h => by
    obtain ⟨rfl, rfl⟩ := h
    refine ⟨rfl, by simp [leaves, Mode.settled], [[]], rfl, rfl, fun l lf u hl hu => ?_⟩
    cases l with
    | zero => simp only [leaves, List.getElem?_cons_zero, Option.some.injEq] at hl hu; subst hl; subst hu; exact ⟨.ro, rfl, .inl rfl, rfl, rfl⟩
    | succ l => simp [leaves] at hl
  | .bool, cs, x, bs, n, h => by
    obtain ⟨rfl, rfl⟩ := h
    refine ⟨rfl, by simp [leaves, Mode.settled], [[]], rfl, rfl, fun l lf u hl hu => ?_⟩
    cases l with
    | zero => simp only [leaves, List.getElem?_cons_zero, Option.some.injEq] at hl hu; subst hl; subst hu; exact ⟨.ro, rfl, .inl rfl, rfl, rfl⟩
    | succ l => simp [leaves] at hl
  | .str, cs, x, bs, n, h => by
    obtain ⟨rfl, rfl⟩ := h
    refine ⟨rfl, by simp [leaves, Mode.settled], [[]], rfl, rfl, fun l lf u hl hu => ?_⟩
    cases l with
    | zero => simp only [leaves, List.getElem?_cons_zero, Option.some.injEq] at hl hu; subst hl; subst hu; exact ⟨.ro, rfl, .inl rfl, rfl, rfl⟩
    | succ l => simp [leaves] at hl
  | .slice e t, cs, x, bs, n, h => by
    have h0 := h
    obtain ⟨v, xs, b0, b1, rfl, _⟩ := h
    refine ⟨rfl, by simp [leaves, Mode.settled], [bs], rfl, by simp, fun l lf u hl hu => ?_⟩
    cases l with
    | zero => simp only [leaves, List.getElem?_cons_zero, Option.some.injEq] at hl hu; subst hl; subst hu; exact ⟨.pn n, rfl, .inr rfl, Rep.pn.2 h0⟩
    | succ l => simp [leaves] at hl
  | .unit, cs, x, bs, n, h => by
    obtain ⟨rfl, rfl⟩ := h
    exact ⟨rfl, by simp [leaves], [], rfl, rfl, fun l lf u hl hu => by simp [leaves] at hl⟩
  | .pair a b, cs, x, bs, n, h => by
    obtain ⟨c1, c2, b1, b2, rfl, rfl, h1, h2⟩ := h
    obtain ⟨l1, s1, d1, e1, f1, k1⟩ := leaves_pn a n h1
    obtain ⟨l2, s2, d2, e2, f2, k2⟩ := leaves_pn b (n + a.sz) h2
    have hsz : c1.length = a.sz := Rep.len h1
    refine ⟨by simp [leaves, l1, l2], fun lf hm => ?_, d1 ++ d2, by simp [e1, e2], by rw [f1, f2, List.flatten_append], fun l lf u hl hu => ?_⟩
    · simp only [leaves] at hm
      exact (List.mem_append.1 hm).elim (s1 lf) (s2 lf)
    · simp only [leaves] at hl
      by_cases hlt : l < c1.length
      · rw [List.getElem?_append_left (by omega)] at hl
        rw [List.getElem?_append_left hlt] at hu
        obtain ⟨m, hm, hp, hh⟩ := k1 l lf u hl hu
        refine ⟨m, hm, hp, ?_⟩
        rw [List.getD_eq_getElem?_getD, List.getElem?_append_left (by omega), ← List.getD_eq_getElem?_getD]
        exact hh
      · rw [List.getElem?_append_right (by omega)] at hl
        rw [List.getElem?_append_right (by omega)] at hu
        obtain ⟨m, hm, hp, hh⟩ := k2 (l - c1.length) lf u (by rw [← l1]; exact hl) hu
        refine ⟨m, hm, ?_, ?_⟩
        · rcases hp with hp | hp
          · exact .inl hp
          · refine .inr ?_
            rw [hp]; congr 1; omega
        · rw [List.getD_eq_getElem?_getD, List.getElem?_append_right (by omega), ← List.getD_eq_getElem?_getD, e1]
          exact hh

theorem entryM {S : Nat → Prop} {w : World} {t : Ty} {x : t.D} {ch : List Value} {b0 : List Nat} {base : Nat} {args : List RV} {vals : List Value} {as : List AV} (hrep : Rep (fun _ => False) w t .dp ch x b0) (hnd : b0.Nodup) (hb0 : ∀ b ∈ b0, base ≤ b) (hbase : base ≤ w.heap.size) (h : RVRels S w args vals) (hS : ∀ b, S b → b ∉ b0) (hp : paramAVs args = some as) {n : Nat} (hn : as.length + 1 ≤ n) :
    RE (cxM S base w ch b0) ((mkCon t.isAgg (leaves t x (fun i => .at_ (.pn i)) 0) :: as) ++ List.replicate (n - (as.length + 1)) .skip) ((mkV t.isAgg ch :: vals).toArray ++ Array.replicate (n - (mkV t.isAgg ch :: vals).toArray.size) undef) w := by
  obtain ⟨k1, cs0, k2⟩ := params_ok (c := cxM S base w ch b0) h hp
  obtain ⟨l1, l2, bds, l3, l4, l5⟩ := leaves_pn (S := fun _ => False) t 0 hrep
  rw [l4] at hnd
  obtain ⟨d1, d2⟩ := flatten_nodup hnd
  let as' : List AV := mkCon t.isAgg (leaves t x (fun i => .at_ (.pn i)) 0) :: as
  let vals' : List Value := mkV t.isAgg ch :: vals
  have hsz : vals'.toArray.size = as'.length := by simp [vals', as', k1]
  let env : Env := as' ++ List.replicate (n - (as.length + 1)) .skip
  let tmps : Array Value := vals'.toArray ++ Array.replicate (n - vals'.toArray.size) undef
  have hasl : as'.length = as.length + 1 := rfl
  have hel : env.length = n := by simp [env, as']; omega
  have htl : tmps.size = n := by simp [tmps, vals']; omega
  let cs : Nat → List Value := fun r => match r with | 0 => ch | r + 1 => cs0 r
  let bs : Nat → Nat → List Nat := fun r l => match r, l with | 0, l + 1 => bds.getD l [] | _, _ => []
  let s : St := SS env noP tmps noV w cs bs
  have hbs : ∀ r l b, b ∈ bs r l → r = 0 ∧ ∃ l', l = l' + 1 ∧ b ∈ bds.getD l' [] ∧ b ∈ b0 := fun r l b hb => by
    cases r with
    | succ r => simp [bs] at hb
    | zero => cases l with
      | zero => simp [bs] at hb
      | succ l => exact ⟨rfl, l, rfl, hb, by rw [l4]; exact flatten_mem hb⟩
  have hRoS : ∀ b, S b → RoS (cxM S base w ch b0) s b := fun b hb => ⟨fun r l hm => hS b hb (let ⟨_, _, _, _, h⟩ := hbs r l b hm; h), .inl hb⟩
  have hget : ∀ r, r < as'.length → ovl env noP r = get as' r ∧ ovlT tmps noV r = vals'.getD r undef := fun r hr => by
    refine ⟨by rw [ovl_lt (by omega)]; exact get_append_lt _ _ _ hr, ?_⟩
    show (if r < tmps.size then tmps.getD r undef else _) = _
    rw [if_pos (by omega)]
    have : r < vals'.length := by simpa using (show r < vals'.toArray.size by omega)
    simp [tmps, this, Array.getD_eq_getD_getElem?, Array.getElem?_append, List.getD_eq_getElem?_getD]
  have hav : ∀ r, AVRel (cxM S base w ch b0) s r (ovl env noP r) (ovlT tmps noV r) ∧ (ovl env noP r).refs = [] ∧ (ovl env noP r).ptrs = [] := fun r => by
    by_cases h1 : r < as'.length
    · rw [(hget r h1).1, (hget r h1).2]
      cases r with
      | succ r => exact k2 r (by rw [hasl] at h1; omega) s (r + 1) rfl hRoS (fun l => rfl) rfl
      | zero =>
        have hr0 := settled_refs (k := if t.isAgg then .agg else .val) l2
        refine ⟨?_, hr0.1, hr0.2⟩
        show AVRel (cxM S base w ch b0) s 0 (.con (if t.isAgg then .agg else .val) (leaves t x (fun i => .at_ (.pn i)) 0)) (mkV t.isAgg ch)
        refine ⟨?_, l1, fun l hl => ?_, fun l lf u hl hu => ?_⟩
        · exact (KCells_mkV (w := s.w) (fun ha => by rw [hrep.len]; exact sz_one ha)).bare rfl
        · show bds.getD l [] = []
          rw [List.getD_eq_getElem?_getD, List.getElem?_eq_none (by omega)]
          rfl
        · obtain ⟨m, e1, e2, e3⟩ := l5 l lf u (by rw [← leafAt_eq]; exact hl) hu
          have hu : ch[l]? = some u := hu
          obtain ⟨t', x', m'⟩ := lf
          simp only at e1 e3
          subst e1
          refine LeafRel.of_rep ?_ (Rep.move (S := fun _ => False) (fun _ h => h.elim) (fun _ _ => rfl) e3)
          rcases e2 with rfl | rfl
          · trivial
          · show u = ch.getD (0 + l) undef
            rw [Nat.zero_add, List.getD_eq_getElem?_getD, hu]
            rfl
    · by_cases h2 : r < n
      · have e1 : ovl env noP r = .skip := by
          rw [ovl_lt (by omega)]
          show get (as' ++ _) r = _
          rw [get_append_ge _ _ _ (by omega), get_rep _ _ _ (by omega)]
        have e2 : ovlT tmps noV r = undef := by
          show (if r < tmps.size then tmps.getD r undef else _) = _
          rw [if_pos (by omega)]
          simp only [tmps, Array.getD_eq_getD_getElem?]
          rw [Array.getElem?_append_right (by omega), Array.getElem?_replicate]
          split <;> rfl
        rw [e1, e2]
        refine ⟨⟨rfl, fun l => ?_⟩, rfl, rfl⟩
        cases r with
        | zero => rw [hasl] at h1; omega
        | succ r => rfl
      · have e1 : ovl env noP r = .undef := by rw [ovl_ge (by omega)]; rfl
        rw [e1]
        refine ⟨fun l => ?_, rfl, rfl⟩
        cases r with
        | zero => rw [hasl] at h1; omega
        | succ r => rfl
  have hlt : ∀ b ∈ b0, b < w.heap.size := Rep.lt hrep
  refine ⟨noV, by rw [hel, htl], cs, bs, ⟨Below.refl _ _, hbase, fun r l b hb => ?_, fun r l r' l' b hb hb' => ?_, fun r l => ?_, fun r => (hav r).1, fun b hb => ⟨hb.1, fun r l hm => ?_, rfl⟩⟩, fun r => ?_⟩
  · obtain ⟨_, _, _, _, h⟩ := hbs r l b hb
    exact ⟨hb0 b h, hlt b h⟩
  · obtain ⟨rfl, l1', rfl, h1, _⟩ := hbs r l b hb
    obtain ⟨rfl, l2', rfl, h2, _⟩ := hbs r' l' b hb'
    rw [d2 l1' l2' b h1 h2]
    exact ⟨rfl, rfl⟩
  · cases r with
    | succ r => exact List.nodup_nil
    | zero => cases l with
      | zero => exact List.nodup_nil
      | succ l => exact d1 l
  · obtain ⟨_, _, _, _, h⟩ := hbs r l b hm
    exact hb.2 h
  · rw [(hav r).2.1, (hav r).2.2]
    exact ⟨by simp, by simp⟩
end Go.FP

/- A whole function: its end, its contract. Conditions: none. -/
namespace Go.FP
open Go.RowKit
set_option linter.unusedVariables false
set_option linter.unusedSimpArgs false

def ownB (bs : Nat → Nat → List Nat) (t : Ty) (d : Nat) : List Nat := (List.range' 0 t.sz).flatMap fun l => bs d (l + 1)
/-- The blocks of outer rows alone. -/
def outB (cs : Nat → List Value) (bs : Nat → Nat → List Nat) (d l : Nat) : List Nat := (bs d l).filter fun b => decide (((cs d).getD (l - 1) undef).ownBlock = some b)
def resB1 (cs : Nat → List Value) (bs : Nat → Nat → List Nat) (t : Ty) (fr : Lvl) (d : Nat) : List Nat := match fr with
  | .dp => ownB bs t d
  | .sh => ownB (outB cs bs) t d
  | _ => []
theorem Rep.outer {S S' : Nat → Prop} {w : World} {e : TypeId} {t : Ty} {lv : Lvl} {u : Value} {x : List t.D} {B : List Nat} (h : Rep S w (.slice e t) lv [u] x B) (hlv : lv = .dp ∨ lv = .sh) (hnd : B.Nodup) (h1 : ∀ b, S b → S' b) (h2 : ∀ b ∈ B, b ∉ (B.filter fun b => decide (u.ownBlock = some b)) → S' b) :
    Rep S' w (.slice e t) .sh [u] x (B.filter fun b => decide (u.ownBlock = some b)) := by
  obtain ⟨v, xs, b0, b1, e1, rfl, hel, hrow⟩ := h
  obtain rfl : u = v := by simpa using e1
  obtain ⟨rfl, hown⟩ : b0 = u.ownBlock.toList ∧ w.ownsRow 0 e t.sz u x.length xs := by rcases hlv with rfl | rfl <;> exact hrow
  have hf : ((u.ownBlock.toList ++ b1).filter fun b => decide (u.ownBlock = some b)) = u.ownBlock.toList := by
    rw [List.filter_append]
    have k1 : (u.ownBlock.toList.filter fun b => decide (u.ownBlock = some b)) = u.ownBlock.toList := List.filter_eq_self.2 (fun b hb => decide_eq_true (mem_toList.1 hb))
    have k2 : (b1.filter fun b => decide (u.ownBlock = some b)) = [] := List.filter_eq_nil_iff.2 (fun b hb hd => (List.nodup_append.1 hnd).2.2 b (mem_toList.2 (of_decide_eq_true hd)) b hb rfl)
    rw [k1, k2, List.append_nil]
  rw [hf] at h2 ⊢
  refine ⟨u, xs, _, [], rfl, (List.append_nil _).symm, ?_, rfl, hown⟩
  refine El.bareW (bs := b1) (fun c x b hk hx => ?_) (fun k hk => hk) hel
  refine Rep.move (S := fun b' => S b' ∨ b' ∈ b) (fun b' hb' _ => ⟨?_, rfl⟩) (by simp) (Rep.ro hx)
  rcases hb' with hb' | hb'
  · exact h1 _ hb'
  · refine h2 _ (List.mem_append_right _ (hk _ hb')) (fun hm => (List.nodup_append.1 hnd).2.2 _ hm _ (hk _ hb') rfl)
def resB (cs : Nat → List Value) (bs : Nat → Nat → List Nat) : List (Ty × Lvl) → List ResultVar → List Nat
  | p :: ps, v :: vs => resB1 cs bs p.1 p.2 (resTmp v) ++ resB cs bs ps vs
  | _, _ => []

section
variable {P : Program} {c : Cx} {T : Tab}

theorem ownB_mem {bs : Nat → Nat → List Nat} {t : Ty} {d b : Nat} (h : b ∈ ownB bs t d) : ∃ l, b ∈ bs d (l + 1) := by
  simp only [ownB, List.mem_flatMap] at h
  obtain ⟨l, _, h⟩ := h
  exact ⟨l, h⟩

theorem resB1_mem {cs : Nat → List Value} {bs : Nat → Nat → List Nat} {t : Ty} {fr : Lvl} {d b : Nat} (h : b ∈ resB1 cs bs t fr d) : ∃ l, b ∈ bs d (l + 1) := by
  cases fr with
  | dp => exact ownB_mem h
  | sh =>
    obtain ⟨l, hl⟩ := ownB_mem h
    exact ⟨l, (List.mem_filter.1 hl).1⟩
  | ro => simp [resB1] at h
  | pn _ => simp [resB1] at h
theorem resB_mem {cs : Nat → List Value} {bs : Nat → Nat → List Nat} : ∀ {rs : List (Ty × Lvl)} {vars : List ResultVar} {b : Nat}, b ∈ resB cs bs rs vars → ∃ (i : Nat) (p : Ty × Lvl) (v : ResultVar) (l : Nat), rs[i]? = some p ∧ vars[i]? = some v ∧ b ∈ resB1 cs bs p.1 p.2 (resTmp v) ∧ b ∈ bs (resTmp v) (l + 1)
  | [], vars, b, h => by simp [resB] at h
  | p :: ps, [], b, h => by simp [resB] at h
  | p :: ps, v :: vs, b, h => by
    simp only [resB, List.mem_append] at h
    rcases h with h | h
    · obtain ⟨l, hl⟩ := resB1_mem h
      exact ⟨0, p, v, l, rfl, rfl, h, hl⟩
    · obtain ⟨i, p', v', l, h1, h2, h3, h4⟩ := resB_mem h
      exact ⟨i + 1, p', v', l, h1, h2, h3, h4⟩

/-- One result's cells. -/
theorem res_core {env : Env} {tmps : Array Value} {vs : Nat → Value} {w : World} {cs : Nat → List Value} {bs : Nat → Nat → List Nat} (hr : Rel c (SS env noP tmps vs w cs bs)) {t : Ty} {fr : Lvl} {d : Nat} {k : Kind} {ls : List Leaf} {x : t.D} (hk : get env d = .con k ls)
    (hall : (ls.all fun l => l.m.settled && fr.asks l) = true) (has : asm t ls = some (x, [])) :
    ∀ S' : Nat → Prop, (∀ b, RoS c (SS env noP tmps vs w cs bs) b → S' b) → (∀ l, ∀ b ∈ bs d (l + 1), b ∉ resB1 cs bs t fr d → S' b) → Rep S' w t fr.res (cs d) x (resB1 cs bs t fr d) := by
  have hd : d < env.length := con_lt hk
  have hav := hr.av d
  have e1 : (SS env noP tmps vs w cs bs).env d = .con k ls := by show ovl env noP d = _; rw [ovl_lt hd, hk]
  rw [e1] at hav
  obtain ⟨_, g2, g3, g4⟩ := hav
  have hleaf : ∀ l lf u, ls[l]? = some lf → (cs d)[l]? = some u → ∃ lv, lf.m = .at_ lv ∧ Rep (RoS c (SS env noP tmps vs w cs bs)) w lf.t lv [u] lf.x (bs d (l + 1)) ∧ (match lf.t with | .slice _ _ => (match fr with | .dp => lv = .dp | .sh => lv = .dp ∨ lv = .sh | _ => True) | _ => True) := by
    intro l lf u hl hu
    have h6 := g4 l lf u (by rw [leafAt_eq]; exact hl) hu
    have h7 := List.all_eq_true.1 hall lf (List.mem_of_getElem? hl)
    simp only [Bool.and_eq_true] at h7
    obtain ⟨h7, h8⟩ := h7
    obtain ⟨t', x', m⟩ := lf
    cases m with
    | at_ lv =>
      refine ⟨lv, rfl, h6.rep, ?_⟩
      cases t' with
      | slice e τ =>
        cases fr with
        | dp => simpa [Lvl.asks] using h8
        | sh => simpa [Lvl.asks] using h8
        | _ => trivial
      | _ => trivial
    | bor _ _ _ => simp [Mode.settled] at h7
    | dead => simp [Mode.settled] at h7
  intro S' h1 h2
  have hdp : fr = .dp → Rep S' w t .dp (cs d) x (ownB bs t d) := by
    intro hfr
    subst hfr
    obtain ⟨c0, c1, k1, k2, k3, k4, _⟩ := asm_repB (S := S') (w := w) (L := .dp) (F := fun l => bs d (l + 1)) t (k := 0) has g2 (fun l lf u hl hu => by
      obtain ⟨lv, h1, h2, h3⟩ := hleaf l lf u hl hu
      rw [Nat.zero_add]
      obtain ⟨us, e0, hna⟩ := asm_noAgg t has
      rw [List.append_nil] at e0
      have hna := hna lf (by rw [← e0]; exact List.mem_of_getElem? hl)
      obtain ⟨t', x', m⟩ := lf
      simp only at h1 h2 h3
      cases t' with
      | slice e τ => simp only at h3; subst h3; exact Rep.dpS h2
      | int _ => exact h2
      | bool => exact h2
      | str => exact h2
      | unit => simp [Ty.isAgg] at hna
      | pair _ _ => simp [Ty.isAgg] at hna)
    have : c1 = [] := List.length_eq_zero_iff.1 k3.symm
    subst this
    rw [List.append_nil] at k1
    have k1 : cs d = c0 := k1
    rw [k1]
    exact k4
  have hsh : fr = .sh → Rep S' w t .sh (cs d) x (ownB (outB cs bs) t d) := by
    intro hfr
    subst hfr
    obtain ⟨c0, c1, k1, k2, k3, k4, _⟩ := asm_repB (S := S') (w := w) (L := .sh) (F := fun l => outB cs bs d (l + 1)) t (k := 0) has g2 (fun l lf u hl hu => by
      obtain ⟨lv, _, hr2, h3⟩ := hleaf l lf u hl hu
      rw [Nat.zero_add]
      have hob : outB cs bs d (l + 1) = (bs d (l + 1)).filter fun b => decide (u.ownBlock = some b) := by
        unfold outB
        rw [Nat.add_sub_cancel, List.getD_eq_getElem?_getD, hu]; rfl
      obtain ⟨us, e0, hna⟩ := asm_noAgg t has
      rw [List.append_nil] at e0
      have hna := hna lf (by rw [← e0]; exact List.mem_of_getElem? hl)
      have hnb : ∀ b ∈ bs d (l + 1), b ∉ outB cs bs d (l + 1) → S' b := by
        intro b hb hnb
        refine h2 l b hb (fun hm => ?_)
        simp only [resB1, ownB, List.mem_flatMap] at hm
        obtain ⟨l', _, hm⟩ := hm
        have := (hr.disj _ _ _ _ _ hb (List.mem_filter.1 hm).1).2
        obtain rfl : l = l' := by omega
        exact hnb hm
      rw [hob] at hnb ⊢
      obtain ⟨t', x', m⟩ := lf
      simp only at hr2 h3
      cases t' with
      | slice e τ => exact Rep.outer hr2 h3 (hr.nodup _ _) h1 hnb
      | int _ => obtain ⟨q1, q2⟩ := hr2; rw [q2]; exact ⟨q1, rfl⟩
      | bool => obtain ⟨q1, q2⟩ := hr2; rw [q2]; exact ⟨q1, rfl⟩
      | str => obtain ⟨q1, q2⟩ := hr2; rw [q2]; exact ⟨q1, rfl⟩
      | unit => simp [Ty.isAgg] at hna
      | pair _ _ => simp [Ty.isAgg] at hna)
    have : c1 = [] := List.length_eq_zero_iff.1 k3.symm
    subst this
    rw [List.append_nil] at k1
    have k1 : cs d = c0 := k1
    rw [k1]
    exact k4
  have hro : resB1 cs bs t fr d = [] → fr.res = .ro → Rep S' w t fr.res (cs d) x (resB1 cs bs t fr d) := by
    intro hnil hres
    rw [hres, hnil]
    rw [hnil] at h2
    obtain ⟨c0, c1, k1, k3, k4, _⟩ := asm_rep (S := S') (w := w) t has g2 (fun l lf u hl hu => by
      obtain ⟨lv, _, h3, _⟩ := hleaf l lf u hl hu
      exact h3.roS (fun b hb _ => h1 b hb) (fun b hb => h2 l b hb (by simp)))
    have : c1 = [] := List.length_eq_zero_iff.1 k3.symm
    subst this
    rw [List.append_nil] at k1
    have k1 : cs d = c0 := k1
    rw [k1]
    exact k4
  cases fr with
  | dp => exact hdp rfl
  | sh => exact hsh rfl
  | ro => exact hro rfl rfl
  | pn _ => exact hro rfl rfl

/-- What a result reads as. -/
def rvRun (tmps : Array Value) : ResultVar → Sem Value := fun
    | ResultVar.tmp t => pure (tmps.getD t undef)
    | ResultVar.cell a t => do loadVar t (← asAddr (tmps.getD a undef))
def RunsTo (P : Program) (tmps : Array Value) (w : World) (v : ResultVar) (u : Value) : Prop := Sem.run P (rvRun tmps v) w = Result.ok u w

/-- One result. -/
theorem res1_rel (hT : TabOk P T) {env : Env} {tmps : Array Value} {vs : Nat → Value} {w : World} {cs : Nat → List Value} {bs : Nat → Nat → List Nat} (hlen : env.length = tmps.size) (hr : Rel c (SS env noP tmps vs w cs bs)) {t : Ty} {fr : Lvl} {v : ResultVar} {x : t.D} (h : res1 T env t fr v = some x) :
    ∃ ch, RunsTo P tmps w v (mkV t.isAgg ch) ∧ ∀ S' : Nat → Prop, (∀ b, RoS c (SS env noP tmps vs w cs bs) b → S' b) → (∀ l, ∀ b ∈ bs (resTmp v) (l + 1), b ∉ resB1 cs bs t fr (resTmp v) → S' b) → Rep S' w t fr.res ch x (resB1 cs bs t fr (resTmp v)) := by
  cases v with
  | cell d tid =>
    simp only [res1] at h
    split at h
    · rename_i htid
      split at h
      · rename_i e ls hk
        split at h
        · rename_i hall
          split at h
          · rename_i y has
            simp only [Option.some.injEq] at h
            subst h
            have k2 := res_core hr hk hall has
            refine ⟨cs d, ?_, k2⟩
            have hd : d < env.length := con_lt hk
            have hav := hr.av d
            have e1 : (SS env noP tmps vs w cs bs).env d = .con (.box e) ls := by show ovl env noP d = _; rw [ovl_lt hd, hk]
            have e2 : (SS env noP tmps vs w cs bs).tm d = tmps.getD d undef := if_pos (hlen ▸ hd)
            rw [e1, e2] at hav
            obtain ⟨⟨B, g1, g2, _⟩, _⟩ := hav
            have hl := (k2 (fun _ => True) (fun _ _ => trivial) (fun _ _ _ _ => trivial)).len
            have hload := run_loadAt (P := P) (w := w) hT htid (x := ⟨B, 0, none⟩) hl (fun j u hu => by
              rw [add_lit']
              unfold World.cell?
              rw [show w.heap[B]? = _ from g2]
              simpa using hu)
            simp only [RunsTo, rvRun]
            rw [g1]
            simpa [Instr.loadAt, Instr.sureAddr, asAddr] using hload
          · simp at h
        · simp at h
      · simp at h
    · simp at h
  | tmp d =>
    simp only [res1] at h
    split at h
    · rename_i k ls hk
      split at h
      · rename_i hc
        simp only [Bool.and_eq_true, decide_eq_true_eq] at hc
        obtain ⟨hkind, hall⟩ := hc
        split at h
        · rename_i y has
          simp only [Option.some.injEq] at h
          subst h
          have k2 := res_core hr hk hall has
          refine ⟨cs d, ?_, k2⟩
          have hd : d < env.length := con_lt hk
          have hav := hr.av d
          have e1 : (SS env noP tmps vs w cs bs).env d = .con k ls := by show ovl env noP d = _; rw [ovl_lt hd, hk]
          have e2 : (SS env noP tmps vs w cs bs).tm d = tmps.getD d undef := if_pos (hlen ▸ hd)
          rw [e1, e2] at hav
          obtain ⟨g1, _⟩ := hav
          have hval : tmps.getD d undef = mkV t.isAgg (cs d) := by
            subst hkind
            unfold Ty.kind at g1
            unfold mkV
            split at g1
            · rename_i ha
              rw [ha]
              exact g1.1
            · rename_i ha
              have ha : t.isAgg = false := by simpa using ha
              rw [ha]
              rw [show cs d = [tmps.getD d undef] from g1.1]
              rfl
          simp only [RunsTo, rvRun]
          rw [hval]
          simp
        · simp at h
      · simp at h
    · simp at h

def RunsTos (P : Program) (tmps : Array Value) (w : World) : List ResultVar → List Value → Prop
  | [], us => us = []
  | v :: vs, us => ∃ u us', us = u :: us' ∧ RunsTo P tmps w v u ∧ RunsTos P tmps w vs us'

theorem resN_rel (hT : TabOk P T) {S : Nat → Prop} {env : Env} {tmps : Array Value} {vs : Nat → Value} {w : World} {cs : Nat → List Value} {bs : Nat → Nat → List Nat} (hlen : env.length = tmps.size) (hr : Rel c (SS env noP tmps vs w cs bs)) (hS : ∀ b, c.S0 b → S b) {B : List Nat} (hB : ∀ b ∈ B, ∃ r l, b ∈ bs r l) :
    ∀ {rs : List (Ty × Lvl)} {vars : List ResultVar} {xs : List (Σ t : Ty, t.D)}, resN T env rs vars = some xs → (∀ (i : Nat) (p : Ty × Lvl) (v : ResultVar), rs[i]? = some p → vars[i]? = some v → ∀ l, ∀ b ∈ bs (resTmp v) (l + 1), b ∉ resB1 cs bs p.1 p.2 (resTmp v) → b ∉ B) →
      ∃ chs, ResRel S c.base w B rs xs chs (resB cs bs rs vars) ∧ RunsTos P tmps w vars (resVals rs chs)
  | [], [], xs, h, hne => by
    simp only [resN, Option.some.injEq] at h
    subst h
    exact ⟨[], ⟨rfl, rfl, rfl⟩, rfl⟩
  | [], v :: vars, xs, h, hne => by simp [resN] at h
  | p :: ps, [], xs, h, hne => by simp [resN] at h
  | (t, fr) :: ps, v :: vars, xs, h, hne => by
    simp only [resN] at h
    cases hx : res1 T env t fr v with
    | none => rw [hx] at h; simp at h
    | some x =>
      cases hxs : resN T env ps vars with
      | none => rw [hx, hxs] at h; simp at h
      | some xs' =>
        rw [hx, hxs] at h
        simp only [Option.some.injEq] at h
        subst h
        obtain ⟨ch, k2, k4⟩ := res1_rel hT hlen hr hx
        obtain ⟨chs, m1, m2⟩ := resN_rel hT hlen hr hS hB hxs (fun i p v h1 h2 => hne (i + 1) p v h1 h2)
        refine ⟨ch :: chs, ⟨x, xs', ch, chs, _, _, rfl, rfl, rfl, ?_, m1⟩, ⟨_, _, rfl, k2, m2⟩⟩
        refine k4 _ (fun b hb => ⟨hb.2.imp (hS b) id, fun hbB => ?_⟩) (fun l b hb hnb => ⟨.inr (hr.own _ _ _ hb).1, hne 0 _ _ rfl rfl l b hb hnb⟩)
        obtain ⟨r, l, h1⟩ := hB b hbB
        exact hb.1 r l h1

theorem nodup_idx {α : Type} : ∀ {l : List α}, l.Nodup → ∀ {i j : Nat} {x : α}, l[i]? = some x → l[j]? = some x → i = j
  | [], _, i, j, x, hi, _ => by simp at hi
  | a :: l, h, 0, 0, x, _, _ => rfl
  | a :: l, h, 0, j + 1, x, hi, hj => by
    simp only [List.getElem?_cons_zero, Option.some.injEq] at hi
    subst hi
    exact absurd (List.mem_of_getElem? (by simpa using hj)) (List.nodup_cons.1 h).1
  | a :: l, h, i + 1, 0, x, hi, hj => by
    simp only [List.getElem?_cons_zero, Option.some.injEq] at hj
    subst hj
    exact absurd (List.mem_of_getElem? (by simpa using hi)) (List.nodup_cons.1 h).1
  | a :: l, h, i + 1, j + 1, x, hi, hj => by rw [nodup_idx (List.nodup_cons.1 h).2 hi hj]

theorem resB_nodup {s : St} (hr : Rel c s) : ∀ {rs : List (Ty × Lvl)} {vars : List ResultVar}, (vars.map resTmp).Nodup → (resB s.cs s.bs rs vars).Nodup
  | [], vars, _ => by simp [resB]
  | p :: ps, [], _ => by simp [resB]
  | p :: ps, v :: vars, hn => by
    simp only [List.map_cons, List.nodup_cons] at hn
    simp only [resB]
    refine List.nodup_append.2 ⟨?_, resB_nodup hr hn.2, fun a ha b hb e => ?_⟩
    · obtain ⟨t, fr⟩ := p
      cases fr with
      | dp => exact nodup_flat (fun l => hr.nodup _ _) (fun l l' b h1 h2 => by have := (hr.disj _ _ _ _ _ h1 h2).2; omega) _ _
      | sh => exact nodup_flat (F := fun l => outB s.cs s.bs (resTmp v) (l + 1)) (fun l => (hr.nodup _ _).filter _) (fun l l' b h1 h2 => by have := (hr.disj _ _ _ _ _ (List.mem_filter.1 h1).1 (List.mem_filter.1 h2).1).2; omega) _ _
      | ro => exact List.nodup_nil
      | pn _ => exact List.nodup_nil
    · subst e
      obtain ⟨l, hl⟩ := resB1_mem ha
      obtain ⟨i, p', v', l', _, h2, _, h4⟩ := resB_mem hb
      have := (hr.disj _ _ _ _ _ hl h4).1
      exact hn.1 (by rw [this]; exact List.mem_map.2 ⟨v', List.mem_of_getElem? h2, rfl⟩)

theorem run_vars {tmps : Array Value} {w : World} : ∀ {l : List ResultVar} {us : List Value}, RunsTos P tmps w l us → Sem.run P (l.mapM (rvRun tmps)) w = Result.ok us w
  | [], us, h => by rw [show us = [] from h]; simp
  | v :: l, us, ⟨u, us', e, h1, h2⟩ => by
    have ih := run_vars h2
    unfold RunsTo at h1
    subst e
    simp only [List.mapM_cons, Sem.run_bind, Sem.run_pure, Result.andThen_ok, ih, h1]

def outVal : List Value → Value
  | [v] => v
  | vs => .tuple vs.toArray
theorem run_results {fn : Func} {tmps : Array Value} {w : World} {l : List Value} (h : RunsTos P tmps w fn.results.toList l) : Sem.run P (results fn tmps) w = Result.ok (outVal l) w := by
  have h1 := run_vars h
  unfold results
  rw [Array.mapM_eq_mapM_toList]
  simp only [Sem.run_bind, Sem.run_map]
  erw [h1]
  simp only [Result.andThen_ok]
  cases l with
  | nil => simp [outVal]
  | cons x l => cases l with
    | nil => simp [outVal]
    | cons y l => simp [outVal]

theorem findPinL_spec {h : Nat} : ∀ {ls : List Leaf} {l : Leaf}, findPinL h ls = some l → ∃ j : Nat, leafAt ls j = some l ∧ l.m = .at_ (.pn h)
  | [], l, he => by simp [findPinL] at he
  | u :: ls, l, he => by
    simp only [findPinL] at he
    split at he
    · rename_i hm
      obtain rfl := Option.some.inj he
      exact ⟨0, rfl, hm⟩
    · obtain ⟨j, h1, h2⟩ := findPinL_spec he
      exact ⟨j + 1, h1, h2⟩
theorem findPin_spec {h : Nat} : ∀ {env : Env} {l : Leaf}, findPin h env = some l → ∃ (r j : Nat) (k : Kind) (ls : List Leaf), get env r = .con k ls ∧ leafAt ls j = some l ∧ l.m = .at_ (.pn h)
  | [], l, he => by simp [findPin] at he
  | v :: env, l, he => by
    have go : findPin h env = some l → ∃ (r j : Nat) (k : Kind) (ls : List Leaf), get (v :: env) r = .con k ls ∧ leafAt ls j = some l ∧ l.m = .at_ (.pn h) := fun he => by
      obtain ⟨r, j, k, ls, h1, h2, h3⟩ := findPin_spec he
      exact ⟨r + 1, j, k, ls, h1, h2, h3⟩
    cases v with
    | con k ls =>
      simp only [findPin] at he
      split at he
      · rename_i l' hl
        obtain rfl := Option.some.inj he
        obtain ⟨j, h1, h2⟩ := findPinL_spec hl
        exact ⟨0, j, k, ls, rfl, h1, h2⟩
      · exact go he
    | _ => exact go he

/-- What the written argument's value is at the end, in the cells that came in. -/
theorem pinVal_rel {env : Env} {tmps : Array Value} {vs : Nat → Value} {w w0 : World} {cs : Nat → List Value} {bs : Nat → Nat → List Nat} (hr : Rel c (SS env noP tmps vs w cs bs)) : ∀ (t : Ty) {x y : t.D} {n : Nat} {ch : List Value} {b0 : List Nat}, Rep (fun _ => False) w0 t .dp ch x b0 → (∀ l u, ch[l]? = some u → c.pin (n + l) = u) → pinVal env t (blank t x) n = some y →
    ∃ b1, Rep (fun _ => False) w t .dp ch y b1 ∧ b1.Nodup ∧ ∀ b ∈ b1, ∃ (r j h : Nat) (k : Kind) (ls : List Leaf) (l : Leaf), b ∈ bs r (j + 1) ∧ get env r = .con k ls ∧ leafAt ls j = some l ∧ l.m = .at_ (.pn h) ∧ n ≤ h ∧ h < n + t.sz
  | .int k, x, y, n, ch, b0, h, hp, hv => by
    simp only [pinVal, blank, Option.some.injEq] at hv
    subst hv
    exact ⟨[], ⟨h.1, rfl⟩, List.nodup_nil, by simp⟩
  | .bool, x, y, n, ch, b0, h, hp, hv => by
    simp only [pinVal, blank, Option.some.injEq] at hv
    subst hv
    exact ⟨[], ⟨h.1, rfl⟩, List.nodup_nil, by simp⟩
  | .str, x, y, n, ch, b0, h, hp, hv => by
    simp only [pinVal, blank, Option.some.injEq] at hv
    subst hv
    exact ⟨[], ⟨h.1, rfl⟩, List.nodup_nil, by simp⟩
  | .unit, x, y, n, ch, b0, h, hp, hv => by
    exact ⟨[], ⟨h.1, rfl⟩, List.nodup_nil, by simp⟩
  | .slice e t, x, y, n, ch, b0, h, hp, hv => by
    obtain ⟨v, xs, _, _, rfl, _⟩ := h
    simp only [pinVal, blank] at hv
    split at hv
    · rename_i l hl
      obtain ⟨r, j, k, ls, h1, h2, h3⟩ := findPin_spec hl
      have hle := Leaf.as_eq hv
      have hrl := con_lt h1
      have hav := hr.av r
      rw [show (SS env noP tmps vs w cs bs).env r = .con k ls by show ovl env noP r = _; rw [ovl_lt hrl, h1]] at hav
      obtain ⟨_, g2, _, g4⟩ := hav
      have g2 : ls.length = (cs r).length := g2
      have hj : j < ls.length := by rw [leafAt_eq] at h2; exact (List.getElem?_eq_some_iff.1 h2).1
      have hu : (cs r)[j]? = some ((cs r)[j]'(by omega)) := List.getElem?_eq_getElem (by omega)
      have h6 := g4 j l _ h2 hu
      rw [hle, h3] at h6
      have hpin : _ = c.pin n := h6.pin
      have hv0 := hp 0 v rfl
      rw [Nat.add_zero] at hv0
      rw [hv0] at hpin
      have hrep := Rep.pn.1 h6.rep
      rw [hpin] at hrep
      exact ⟨_, Rep.dpS hrep, hr.nodup r (j + 1), fun b hb => ⟨r, j, n, k, ls, l, hb, h1, h2, h3, Nat.le_refl _, by simp [Ty.sz]⟩⟩
    · simp at hv
  | .pair a b, x, y, n, ch, b0, h, hp, hv => by
    obtain ⟨c1, c2, e1, e2, rfl, rfl, h1, h2⟩ := h
    have hsz : c1.length = a.sz := Rep.len h1
    simp only [pinVal, blank] at hv
    split at hv
    · rename_i y1 y2 p1 p2
      obtain rfl := Option.some.inj hv
      obtain ⟨d1, q1, q2, q3⟩ := pinVal_rel hr a h1 (fun l u hu => hp l u (by rw [List.getElem?_append_left (List.getElem?_eq_some_iff.1 hu).1]; exact hu)) p1
      obtain ⟨d2, r1, r2, r3⟩ := pinVal_rel hr b (n := n + a.sz) h2 (fun l u hu => by
        rw [Nat.add_assoc]
        refine hp (a.sz + l) u ?_
        rw [List.getElem?_append_right (by omega), hsz, Nat.add_sub_cancel_left]
        exact hu) p2
      refine ⟨d1 ++ d2, ⟨c1, c2, d1, d2, rfl, rfl, q1, r1⟩, List.nodup_append.2 ⟨q2, r2, fun b1 hb1 b2 hb2 e => ?_⟩, fun b hb => ?_⟩
      · subst e
        obtain ⟨r, j, h, k, ls, l, m1, m2, m3, m4, m5, m6⟩ := q3 b1 hb1
        obtain ⟨r', j', h', k', ls', l', n1, n2, n3, n4, n5, n6⟩ := r3 b1 hb2
        obtain ⟨rfl, hj⟩ := hr.disj _ _ _ _ _ m1 n1
        obtain rfl : j = j' := by omega
        rw [m2] at n2
        simp only [AV.con.injEq] at n2
        obtain ⟨rfl, rfl⟩ := n2
        rw [m3] at n3
        obtain rfl := Option.some.inj n3
        rw [m4] at n4
        simp only [Mode.at_.injEq, Lvl.pn.injEq] at n4
        omega
      · rcases List.mem_append.1 hb with hb | hb
        · obtain ⟨r, j, h, k, ls, l, m1, m2, m3, m4, m5, m6⟩ := q3 b hb
          exact ⟨r, j, h, k, ls, l, m1, m2, m3, m4, m5, by simp only [Ty.sz]; omega⟩
        · obtain ⟨r, j, h, k, ls, l, m1, m2, m3, m4, m5, m6⟩ := r3 b hb
          exact ⟨r, j, h, k, ls, l, m1, m2, m3, m4, by omega, by simp only [Ty.sz]; omega⟩
    · simp at hv

theorem resRel_allFlat {S S' : Nat → Prop} {base base' : Nat} {w : World} {B B' : List Nat} : ∀ {rs : List (Ty × Lvl)} {xs : List (Σ t : Ty, t.D)} {chs : List (List Value)} {bs : List Nat}, allFlat rs = true → ResRel S base w B rs xs chs bs → ResRel S' base' w B' rs xs chs []
  | [], xs, chs, bs, _, h => ⟨h.1, h.2.1, rfl⟩
  | (t, fr) :: rs, xs, chs, bs, ha, ⟨x, xs', ch, chs', b, b', e1, e2, e3, h1, h2⟩ => by
    simp only [allFlat, Bool.and_eq_true] at ha
    exact ⟨x, xs', ch, chs', [], [], e1, e2, rfl, (Rep.flat ha.1 h1).2, resRel_allFlat ha.2 h2⟩

/-- The contract of a function that the evaluator has run. -/
theorem fn_spec {R : Type} {KR : List (Σ t : Ty, t.D) → Option R} {rr : R} {sig : FuncId → Option Sig} {caps : FuncId → List Ty} {orc : Orc} (hT : TabOk P T) (hO : OrcOk P sig orc) (hm : P.follows .mixedOrders = true) {dr : Array Oper → Env → (Env → Option R) → Option R} (hdraw : DrawHyp (R := R) T sig caps orc dr) {fuel : Nat} {ann : Nat → Option (List Nat)} {f : FuncId} {fn : Func} {code : Code} (hf : P.funcs[f]? = some fn) (hb : fn.body = some code) {sg : Sig} {args : List RV} {res : List (Σ t : Ty, t.D)}
    (hmu : sg.muts = false) (hU : ∀ xs, KR xs = some rr → xs = res) (h : evFn T sig caps orc dr fuel ann sg fn code args KR = some rr) : FnSpec P f sg.results args res := by
  intro S w vals hargs
  unfold evFn at h
  split at h
  · rename_i as has
    unfold entryAVs at has
    rw [hmu] at has
    simp only at has
    split at h
    · rename_i hc
      obtain ⟨hle, hnd, _⟩ := hc
      have hen := entry hargs has hle
      refine calls_of_wp hf hb ?_
      refine evCode_sound hT hO hm hdraw (c := cx0 S w) (N := fn.ntmps) (D := []) (K := endK T sg fn (keepArgs sg args) KR) code hen (by simp; omega) rfl (fun e env' a' w' hK hr' hl' hd' => ?_) h
      have fin : (match resN T env' sg.results fn.results.toList with | some xs => (match mutRes sg (keepArgs sg args) env' xs with | some ys => KR ys | none => none) | none => none) = some rr → (a'.defers = [] ∧ ∃ v, (results fn a'.tmps).run P w' = .ok v w' ∧ (fun (e : Ending) (w' : World) => ∃ chs bs, e = .returned (resVal sg.results chs) ∧ Below w.heap.size w w' ∧ ResRel S w.heap.size w' bs sg.results res chs bs ∧ bs.Nodup ∧ ∀ b ∈ bs, w.heap.size ≤ b) (.returned v) w') := by
        intro hK
        have hres : resN T env' sg.results fn.results.toList = some res := by
          cases hx : resN T env' sg.results fn.results.toList with
          | none => rw [hx] at hK; simp at hK
          | some xs =>
            rw [hx] at hK
            have : mutRes sg (keepArgs sg args) env' xs = some xs := by unfold mutRes; rw [hmu]
            simp only [this] at hK
            rw [hU xs hK]
        obtain ⟨vs, hlen, cs, bs, hrel, hno⟩ := hr'
        let B := resB cs bs sg.results fn.results.toList
        have hB : ∀ b ∈ B, ∃ r l, b ∈ bs r l := fun b hb => by
          obtain ⟨i, p, v, l, _, _, _, h4⟩ := resB_mem hb
          exact ⟨_, _, h4⟩
        obtain ⟨chs, m1, m2⟩ := resN_rel hT (S := S) hlen hrel (fun b hb => hb) hB hres (fun i p v h1 h2 l b hb hnb hbB => by
          obtain ⟨i', p', v', l', k1, k2, k3, k4⟩ := resB_mem hbB
          have hdd := (hrel.disj _ _ _ _ _ hb k4).1
          have : i = i' := nodup_idx hnd (x := resTmp v) (by rw [List.getElem?_map, h2]; rfl) (by rw [List.getElem?_map, k2, hdd]; rfl)
          subst this
          rw [h1] at k1
          simp only [Option.some.injEq] at k1
          subst k1
          rw [h2] at k2
          obtain rfl := Option.some.inj k2
          exact hnb k3)
        refine ⟨hd', _, run_results m2, chs, B, rfl, hrel.below, m1, resB_nodup hrel hnd, fun b hb => ?_⟩
        · obtain ⟨r, l, h1⟩ := hB b hb
          exact (hrel.own _ _ _ h1).1
      cases e with
      | ret => exact fin hK
      | normal => exact fin hK
      | _ => simp [endK] at hK
    · simp at h
  · simp at h

/-- The contract of a function that writes its first argument's rows. -/
theorem fn_specM {R : Type} {KR : List (Σ t : Ty, t.D) → Option R} {rr : R} {sig : FuncId → Option Sig} {caps : FuncId → List Ty} {orc : Orc} (hT : TabOk P T) (hO : OrcOk P sig orc) (hm : P.follows .mixedOrders = true) {dr : Array Oper → Env → (Env → Option R) → Option R} (hdraw : DrawHyp (R := R) T sig caps orc dr) {fuel : Nat} {ann : Nat → Option (List Nat)} {f : FuncId} {fn : Func} {code : Code} (hf : P.funcs[f]? = some fn) (hb : fn.body = some code) {sg : Sig} {t : Ty} {x y : t.D} {rest : List RV} {ys : List (Σ t : Ty, t.D)}
    (hmu : sg.muts = true) (hU : ∀ xs, KR xs = some rr → xs = ⟨t, y⟩ :: ys) (h : evFn T sig caps orc dr fuel ann sg fn code (.val t x :: rest) KR = some rr) : FnSpecMut P f sg.results t x rest y ys := by
  intro S w ch vals b0 base hrep hnd0 hb0 hbase hargs hS
  unfold evFn at h
  split at h
  · rename_i as has
    unfold entryAVs at has
    rw [hmu] at has
    simp only [paramMut] at has
    split at has
    · rename_i v vs0 hv0 hvs0
      obtain rfl := Option.some.inj has
      obtain rfl := Option.some.inj hv0
      split at h
      · rename_i hc
        obtain ⟨hle, hnd, hfl⟩ := hc
        have hfl := hfl hmu
        have hen := entryM hrep hnd0 hb0 hbase hargs hS hvs0 (n := fn.ntmps) (by simpa using hle)
        refine calls_of_wp hf hb ?_
        refine evCode_sound hT hO hm hdraw (c := cxM S base w ch b0) (N := fn.ntmps) (D := []) (K := endK T sg fn (keepArgs sg (.val t x :: rest)) KR) code hen (by simp at hle ⊢; omega) rfl (fun e env' a' w' hK hr' hl' hd' => ?_) (by simpa using h)
        have fin : (match resN T env' sg.results fn.results.toList with | some xs => (match mutRes sg (keepArgs sg (.val t x :: rest)) env' xs with | some ys => KR ys | none => none) | none => none) = some rr → (a'.defers = [] ∧ ∃ v, (results fn a'.tmps).run P w' = .ok v w' ∧ (fun (e : Ending) (w' : World) => ∃ chs bs b1, e = .returned (resVal sg.results chs) ∧ Below base w w' ∧ (∀ b, b < w.heap.size → b ∉ b0 → w'.heap[b]? = w.heap[b]?) ∧ Rep (fun _ => False) w' t .dp ch y b1 ∧ b1.Nodup ∧ (∀ b ∈ b1, b ∈ b0 ∨ w.heap.size ≤ b) ∧ ResRel S w.heap.size w' bs sg.results ys chs bs) (.returned v) w') := by
          intro hK
          cases hx : resN T env' sg.results fn.results.toList with
          | none => rw [hx] at hK; simp at hK
          | some xs =>
            rw [hx] at hK
            simp only [mutRes, keepArgs, hmu] at hK
            cases hp : pinVal env' t (blank t x) 0 with
            | none => rw [hp] at hK; simp at hK
            | some y' =>
              rw [hp] at hK
              simp only at hK
              have := hU _ hK
              simp only [List.cons.injEq, Sigma.mk.injEq, heq_eq_eq, true_and] at this
              obtain ⟨rfl, rfl⟩ := this
              obtain ⟨vs, hlen, cs, bs, hrel, hno⟩ := hr'
              let B := resB cs bs sg.results fn.results.toList
              have hB : ∀ b ∈ B, ∃ r l, b ∈ bs r l := fun b hb => by
                obtain ⟨i, p, v, l, _, _, _, h4⟩ := resB_mem hb
                exact ⟨_, _, h4⟩
              obtain ⟨chs, m1, m2⟩ := resN_rel hT (S := S) hlen hrel (fun b hb => hb) hB hx (fun i p v h1 h2 l b hb hnb hbB => by
                obtain ⟨i', p', v', l', k1, k2, k3, k4⟩ := resB_mem hbB
                have hdd := (hrel.disj _ _ _ _ _ hb k4).1
                have : i = i' := nodup_idx hnd (x := resTmp v) (by rw [List.getElem?_map, h2]; rfl) (by rw [List.getElem?_map, k2, hdd]; rfl)
                subst this
                rw [h1] at k1
                simp only [Option.some.injEq] at k1
                subst k1
                rw [h2] at k2
                obtain rfl := Option.some.inj k2
                exact hnb k3)
              obtain ⟨b1, n1, n2, n3⟩ := pinVal_rel hrel t (w0 := w) hrep (fun l u hu => by
                show ch.getD (0 + l) undef = u
                rw [Nat.zero_add, List.getD_eq_getElem?_getD, hu]
                rfl) hp
              refine ⟨hd', _, run_results m2, chs, [], b1, rfl, hrel.below, fun b hb hb2 => ((hrel.froz b ⟨hb, hb2⟩).2.2), n1, n2, fun b hb => ?_, resRel_allFlat hfl m1⟩
              obtain ⟨r, j, _, _, _, _, hbm, _⟩ := n3 b hb
              by_cases hb2 : b ∈ b0
              · exact .inl hb2
              · refine .inr (Nat.le_of_not_lt fun hlt => ?_)
                exact (hrel.froz b ⟨hlt, hb2⟩).2.1 _ _ hbm
        cases e with
        | ret => exact fin hK
        | normal => exact fin hK
        | _ => simp [endK] at hK
      · simp at h
    · simp at has
  · simp at h
end
end Go.FP

/- Orders: steps that each write one place may change their order. Conditions: none. -/
namespace Go.FP
open Go.RowKit
set_option linter.unusedVariables false
set_option linter.unusedSimpArgs false

/-- What a step writes and what it reads. -/
abbrev Foot1 := Option (Nat × List Nat)
abbrev Foot := Option (List Nat × List Nat)
def Dis : Foot → Foot → Prop
  | some (W, R), some (W', R') => (∀ w ∈ W, w ∉ W' ∧ w ∉ R') ∧ (∀ w ∈ W', w ∉ R)
  | _, _ => False
def puts : Env → List Nat → List AV → Env
  | env, w :: W, v :: vs => puts (put env w v) W vs
  | env, _, _ => env

theorem put_comm : ∀ (env : Env) {a b : Nat} (u v : AV), a ≠ b → put (put env a u) b v = put (put env b v) a u
  | [], a, b, u, v, h => by cases a <;> cases b <;> rfl
  | x :: env, 0, 0, u, v, h => absurd rfl h
  | x :: env, 0, b + 1, u, v, h => rfl
  | x :: env, a + 1, 0, u, v, h => rfl
  | x :: env, a + 1, b + 1, u, v, h => by
    show x :: put (put env a u) b v = x :: put (put env b v) a u
    rw [put_comm env u v (fun e => h (by rw [e]))]
theorem puts_length : ∀ (W : List Nat) (vs : List AV) (env : Env), (puts env W vs).length = env.length
  | [], _, _ => by simp [puts]
  | w :: W, [], _ => rfl
  | w :: W, v :: vs, env => by simp only [puts]; rw [puts_length W vs, put_length]
theorem get_puts_ne {r : Nat} : ∀ {W : List Nat} {vs : List AV} {env : Env}, r ∉ W → get (puts env W vs) r = get env r
  | [], vs, env, h => by simp [puts]
  | w :: W, [], env, h => rfl
  | w :: W, v :: vs, env, h => by
    simp only [List.mem_cons, not_or] at h
    simp only [puts]
    rw [get_puts_ne h.2, get_put, if_neg (fun e => h.1 e.1)]
theorem get_puts_in {r : Nat} : ∀ {W : List Nat} {vs : List AV} {env env' : Env}, r ∈ W → vs.length = W.length → env.length = env'.length → get (puts env W vs) r = get (puts env' W vs) r
  | [], vs, env, env', h, _, _ => by simp at h
  | w :: W, [], env, env', h, hl, _ => by simp at hl
  | w :: W, v :: vs, env, env', h, hl, he => by
    simp only [puts]
    by_cases hr : r ∈ W
    · exact get_puts_in hr (by simpa using hl) (by rw [put_length, put_length, he])
    · rw [get_puts_ne hr, get_puts_ne hr, get_put, get_put, he]
      have hw : r = w := by
        rcases List.mem_cons.1 h with h | h
        · exact h
        · exact absurd h hr
      by_cases hlt : w < env'.length
      · rw [if_pos ⟨hw, hlt⟩, if_pos ⟨hw, hlt⟩]
      · rw [if_neg (fun e => hlt e.2), if_neg (fun e => hlt e.2), get_ge _ _ (by omega), get_ge _ _ (by omega)]
theorem puts_put {w : Nat} {v : AV} : ∀ {W : List Nat} {vs : List AV} {env : Env}, w ∉ W → puts (put env w v) W vs = put (puts env W vs) w v
  | [], vs, env, h => by simp [puts]
  | w' :: W, [], env, h => rfl
  | w' :: W, v' :: vs, env, h => by
    simp only [List.mem_cons, not_or] at h
    simp only [puts]
    rw [put_comm env v v' h.1, puts_put h.2]
theorem puts_comm : ∀ {W W' : List Nat} {vs vs' : List AV} {env : Env}, (∀ w ∈ W, w ∉ W') → puts (puts env W vs) W' vs' = puts (puts env W' vs') W vs
  | [], W', vs, vs', env, h => by simp [puts]
  | w :: W, W', [], vs', env, h => by simp [puts]
  | w :: W, W', v :: vs, vs', env, h => by
    simp only [puts]
    rw [puts_comm (fun w' hw' => h w' (List.mem_cons_of_mem _ hw')), puts_put (h w List.mem_cons_self)]

section
variable (J : AV → Prop) (step : Nat → Env → Option Env) (foot : Nat → Env → Foot)
def AllJ (env : Env) : Prop := ∀ r, J (get env r)
def Mild : Prop := ∀ i env W Rd env', AllJ J env → foot i env = some (W, Rd) → step i env = some env' → ∃ vs, vs.length = W.length ∧ env' = puts env W vs ∧ ∀ env2 : Env, AllJ J env2 → env2.length = env.length → (∀ k ∈ W ++ Rd, get env2 k = get env k) → step i env2 = some (puts env2 W vs) ∧ foot i env2 = some (W, Rd)
def Trace : List Nat → Env → Env → (Nat → Foot) → Prop
  | [], e, E, _ => AllJ J e ∧ e = E
  | i :: l, e, E, φ => AllJ J e ∧ foot i e = φ i ∧ ∃ e1, step i e = some e1 ∧ Trace l e1 E φ

variable {J step foot}
theorem Trace.all {l : List Nat} {e E : Env} {φ : Nat → Foot} (h : Trace J step foot l e E φ) : AllJ J e := by
  cases l with
  | nil => exact h.1
  | cons i l => exact h.1
theorem Trace.swap (hM : Mild J step foot) {x y : Nat} {l : List Nat} {e E : Env} {φ : Nat → Foot} (h : Trace J step foot (x :: y :: l) e E φ) (hd : Dis (φ x) (φ y)) : Trace J step foot (y :: x :: l) e E φ := by
  obtain ⟨je, fx, e1, sx, je1, fy, e2, sy, ht⟩ := h
  have je2 := ht.all
  cases hφx : φ x with
  | none => rw [hφx] at hd; exact hd.elim
  | some p =>
    cases hφy : φ y with
    | none => rw [hφx, hφy] at hd; exact hd.elim
    | some q =>
      obtain ⟨W, R⟩ := p
      obtain ⟨W', R'⟩ := q
      rw [hφx, hφy] at hd
      obtain ⟨d1, d2⟩ := hd
      rw [hφx] at fx
      rw [hφy] at fy
      obtain ⟨vs, lx, rfl, kx⟩ := hM x e W R e1 je fx sx
      obtain ⟨vs', ly, rfl, ky⟩ := hM y (puts e W vs) W' R' e2 je1 fy sy
      have dW : ∀ w ∈ W', w ∉ W := fun w hw hw' => (d1 w hw').1 hw
      obtain ⟨a1, a2⟩ := ky e je (puts_length _ _ _).symm (fun k hk => by
        rw [get_puts_ne]
        intro hkW
        rcases List.mem_append.1 hk with hk | hk
        · exact (d1 k hkW).1 hk
        · exact (d1 k hkW).2 hk)
      have je' : AllJ J (puts e W' vs') := fun r => by
        by_cases hr : r ∈ W'
        · rw [get_puts_in hr ly (puts_length W vs e).symm]
          exact je2 r
        · rw [get_puts_ne hr]; exact je r
      obtain ⟨b1, b2⟩ := kx (puts e W' vs') je' (puts_length _ _ _) (fun k hk => by
        rw [get_puts_ne]
        intro hkW
        rcases List.mem_append.1 hk with hk | hk
        · exact dW k hkW hk
        · exact d2 k hkW hk)
      refine ⟨je, a2.trans hφy.symm, _, a1, je', b2.trans hφx.symm, _, b1, ?_⟩
      rw [puts_comm (fun w hw => dW w hw)]
      exact ht

theorem Trace.move (hM : Mild J step foot) {x : Nat} {B : List Nat} {E : Env} {φ : Nat → Foot} : ∀ {A : List Nat} {e : Env}, Trace J step foot (x :: (A ++ B)) e E φ → (∀ a ∈ A, Dis (φ x) (φ a)) → Trace J step foot (A ++ x :: B) e E φ
  | [], e, h, _ => h
  | a :: A, e, h, hd => by
    obtain ⟨k0, k1, e1, k2, k3⟩ := Trace.swap hM h (hd a (by simp))
    exact ⟨k0, k1, e1, k2, Trace.move hM k3 (fun a' ha' => hd a' (by simp [ha']))⟩

theorem Trace.reorder (hM : Mild J step foot) {E : Env} {φ : Nat → Foot} : ∀ {l π : List Nat} {e : Env}, l.Pairwise (· < ·) → π.Perm l → π.Pairwise (fun a x => x < a → Dis (φ x) (φ a)) → Trace J step foot l e E φ → Trace J step foot π e E φ
  | [], π, e, _, hp, _, h => by rw [List.Perm.eq_nil hp]; exact h
  | x :: l, π, e, hs, hp, hg, ⟨k0, k1, e1, k2, k3⟩ => by
    have hx : x ∈ π := hp.symm.subset (by simp)
    obtain ⟨A, B, rfl⟩ := List.append_of_mem hx
    have hp' : (A ++ B).Perm l := by
      have h1 : (x :: (A ++ B)).Perm (x :: l) := List.perm_middle.symm.trans hp
      exact List.Perm.cons_inv h1
    have hs' := List.pairwise_cons.1 hs
    have hsub : (A ++ B).Sublist (A ++ x :: B) := List.Sublist.append_left (List.sublist_cons_self x B) A
    have hrec := Trace.reorder hM hs'.2 hp' (hg.sublist hsub) k3
    refine Trace.move hM ⟨k0, k1, e1, k2, hrec⟩ (fun a ha => ?_)
    have hax : x < a := hs'.1 a (hp'.subset (List.mem_append_left _ ha))
    exact (List.pairwise_append.1 hg).2.2 a ha x (by simp) hax
end

/-! ### the orders that may come -/
def unl (n : Nat) (listed : Array Bool) : List Nat := (List.range n).filter fun i => !listed.getD i true

theorem linearise_acc (m : Region.Mode) (ops : Array Oper) : ∀ (fuel t : Nat) (listed : Array Bool) (acc : List Nat), Region.linearise.go m ops fuel t listed acc = acc.reverse ++ Region.linearise.go m ops fuel t listed [] := linearise_go_acc m ops

theorem unl_set {n : Nat} {listed : Array Bool} (hs : listed.size = n) {i : Nat} (hi : i ∈ unl n listed) : (unl n listed).Perm (i :: unl n (listed.setIfInBounds i true)) := by
  have hnd : (unl n listed).Nodup := List.Nodup.sublist List.filter_sublist List.nodup_range
  have hnd2 : (i :: unl n (listed.setIfInBounds i true)).Nodup := by
    refine List.nodup_cons.2 ⟨fun h => ?_, List.Nodup.sublist List.filter_sublist List.nodup_range⟩
    simp only [unl, List.mem_filter, List.mem_range] at h
    have : i < listed.size := by omega
    simp [this] at h
  refine (List.perm_ext_iff_of_nodup hnd hnd2).2 (fun k => ?_)
  simp only [unl, List.mem_filter, List.mem_range, List.mem_cons] at hi ⊢
  by_cases hk : k = i
  · subst hk
    constructor
    · intro _; exact .inl rfl
    · intro _; exact hi
  · have hki : ¬ i = k := fun h => hk h.symm
    constructor
    · intro ⟨h1, h2⟩
      refine .inr ⟨h1, ?_⟩
      have h1' : k < listed.size := by omega
      simp only [Array.getD_eq_getD_getElem?, Array.getElem?_setIfInBounds, if_neg hki] at h2 ⊢
      exact h2
    · rintro (h | ⟨h1, h2⟩)
      · exact absurd h hk
      · refine ⟨h1, ?_⟩
        simp only [Array.getD_eq_getD_getElem?, Array.getElem?_setIfInBounds, if_neg hki] at h2 ⊢
        exact h2

/-- Every order lists every operation, each behind those it waits for. -/
theorem go_spec (m : Region.Mode) (ops : Array Oper) (hback : ∀ (i : Nat) (o : Oper), ops[i]? = some o → ∀ e ∈ o.after, Region.binds m e = true → e.on < i) : ∀ (fuel t : Nat) (listed : Array Bool), listed.size = ops.size → (unl ops.size listed).length ≤ fuel →
    (Region.linearise.go m ops fuel t listed []).Perm (unl ops.size listed) ∧ ∀ (A : List Nat) (i : Nat) (B : List Nat), Region.linearise.go m ops fuel t listed [] = A ++ i :: B → ∀ (o : Oper), ops[i]? = some o → ∀ e ∈ o.after, Region.binds m e = true → listed.getD e.on false = true ∨ e.on ∈ A
  | 0, t, listed, hs, hl => by
    have : unl ops.size listed = [] := List.length_eq_zero_iff.1 (by omega)
    rw [this]
    exact ⟨by simp [Region.linearise.go], fun A i B h => by simp [Region.linearise.go] at h⟩
  | fuel + 1, t, listed, hs, hl => by
    rw [Region.linearise.go]
    let rs := (List.range ops.size).filter fun i => !listed.getD i true && ((ops[i]?).map (·.after.all fun e => !Region.binds m e || listed.getD e.on false)).getD false
    have hrs : ∀ i ∈ rs, i ∈ unl ops.size listed ∧ ∀ (o : Oper), ops[i]? = some o → ∀ e ∈ o.after, Region.binds m e = true → listed.getD e.on false = true := by
      intro i hi
      simp only [rs, List.mem_filter, Bool.and_eq_true] at hi
      obtain ⟨h1, h2, h3⟩ := hi
      refine ⟨by simp only [unl, List.mem_filter]; exact ⟨h1, h2⟩, fun o ho e he hb => ?_⟩
      rw [ho] at h3
      simp only [Option.map_some, Option.getD_some, Array.all_eq_true'] at h3
      have := h3 e he
      simpa [hb] using this
    show List.Perm (match rs[t % rs.length]? with | some i => Region.linearise.go m ops fuel (t / rs.length) (listed.setIfInBounds i true) [i] | none => [].reverse) _ ∧ _
    cases hu : unl ops.size listed with
    | nil =>
      have hrs0 : rs = [] := by
        apply List.eq_nil_iff_forall_not_mem.2
        intro i hi
        have := (hrs i hi).1
        rw [hu] at this
        simp at this
      have e0 : rs[t % rs.length]? = none := by rw [hrs0]; rfl
      refine ⟨by rw [e0]; exact List.Perm.refl _, fun A i B h => ?_⟩
      change (match rs[t % rs.length]? with | some i => Region.linearise.go m ops fuel (t / rs.length) (listed.setIfInBounds i true) [i] | none => [].reverse) = _ at h
      rw [e0] at h
      simp at h
    | cons i0 us =>
      have hi0 : i0 ∈ rs := by
        have hm0 : i0 ∈ unl ops.size listed := by rw [hu]; simp
        simp only [unl, List.mem_filter, List.mem_range] at hm0
        simp only [rs, List.mem_filter, List.mem_range, Bool.and_eq_true]
        refine ⟨hm0.1, hm0.2, ?_⟩
        rw [Array.getElem?_eq_getElem hm0.1]
        simp only [Option.map_some, Option.getD_some, Array.all_eq_true']
        intro e he
        apply Decidable.byContradiction
        intro hcon
        have hbe : Region.binds m e = true := by
          cases hb : Region.binds m e with
          | true => rfl
          | false => rw [hb] at hcon; simp at hcon
        apply hcon
        have hlt := hback i0 _ (Array.getElem?_eq_getElem hm0.1) e he hbe
        have : listed.getD e.on false = true := by
          apply Decidable.byContradiction
          intro hne
          have hsz : e.on < listed.size := by omega
          have hmem : e.on ∈ unl ops.size listed := by
            simp only [unl, List.mem_filter, List.mem_range]
            refine ⟨by omega, ?_⟩
            simp only [Array.getD_eq_getD_getElem?, Array.getElem?_eq_getElem hsz, Option.getD_some] at hne ⊢
            simpa using hne
          rw [hu] at hmem
          have hsorted : (i0 :: us).Pairwise (· < ·) := by
            rw [← hu]
            exact List.Pairwise.sublist List.filter_sublist List.pairwise_lt_range
          rcases List.mem_cons.1 hmem with h | h
          · omega
          · have := (List.pairwise_cons.1 hsorted).1 _ h
            omega
        rw [this]
        simp
      have hpos : 0 < rs.length := List.length_pos_of_mem hi0
      have hlt : t % rs.length < rs.length := Nat.mod_lt _ hpos
      let i := rs[t % rs.length]
      have ei : rs[t % rs.length]? = some i := List.getElem?_eq_getElem hlt
      have him : i ∈ rs := List.getElem_mem hlt
      obtain ⟨k1, k2⟩ := hrs i him
      have hperm := unl_set hs k1
      have hlen : (unl ops.size (listed.setIfInBounds i true)).length ≤ fuel := by
        have := hperm.length_eq
        simp only [List.length_cons] at this
        omega
      obtain ⟨g1, g2⟩ := go_spec m ops hback fuel (t / rs.length) (listed.setIfInBounds i true) (by simpa using hs) hlen
      have eg : Region.linearise.go m ops fuel (t / rs.length) (listed.setIfInBounds i true) [i] = i :: Region.linearise.go m ops fuel (t / rs.length) (listed.setIfInBounds i true) [] := by
        rw [linearise_acc]; rfl
      rw [← hu]
      refine ⟨by rw [ei]; simp only; rw [eg]; exact (List.Perm.cons i g1).trans hperm.symm, fun A j B h o ho e he hb => ?_⟩
      change (match rs[t % rs.length]? with | some i => Region.linearise.go m ops fuel (t / rs.length) (listed.setIfInBounds i true) [i] | none => [].reverse) = _ at h
      rw [ei] at h
      simp only at h
      rw [eg] at h
      cases A with
      | nil =>
        simp only [List.nil_append, List.cons.injEq] at h
        rw [← h.1] at ho
        exact .inl (k2 o ho e he hb)
      | cons a A =>
        simp only [List.cons_append, List.cons.injEq] at h
        obtain ⟨rfl, h⟩ := h
        rcases g2 A j B h o ho e he hb with h1 | h1
        · by_cases hea : e.on = i
          · exact .inr (by rw [hea]; simp)
          · left
            have hie : ¬ i = e.on := fun h => hea h.symm
            simp only [Array.getD_eq_getD_getElem?, Array.getElem?_setIfInBounds, if_neg hie] at h1 ⊢
            exact h1
        · exact .inr (List.mem_cons_of_mem _ h1)
end Go.FP

/- The continuation is used once. Conditions: none. -/
namespace Go.FP
open Go.RowKit
set_option linter.unusedVariables false
set_option linter.unusedSimpArgs false

section
variable {R : Type} {T : Tab} {sig : FuncId → Option Sig} {caps : FuncId → List Ty} {orc : Orc}

theorem intOp_bind (op : BinOp) (k : IntKind) (a b : Int) (K : AV → Option R) : intOp op k a b K = (intOp op k a b some).bind K := by
  unfold intOp
  repeat' split
  all_goals first | rfl | (cases h : decide (b = 0) <;> rfl) | skip

theorem strOp_bind (op : BinOp) (a b : ByteArray) (K : AV → Option R) : strOp op a b K = (strOp op a b some).bind K := by
  unfold strOp
  repeat' split
  all_goals first | rfl | (cases h : decide (a.size + b.size ≤ 140737488355328) <;> rfl)

theorem binOp1_bind (op : BinOp) (t : TypeId) (x y : AV) (K : AV → Option R) : binOp1 T op t x y K = (binOp1 T op t x y some).bind K := by
  unfold binOp1
  repeat' split
  all_goals first | rfl | exact intOp_bind _ _ _ _ _ | exact strOp_bind _ _ _ _

theorem unOp1_bind (op : UnOp) (x : AV) (K : AV → Option R) : unOp1 op x K = (unOp1 op x some).bind K := by
  unfold unOp1
  repeat' split
  all_goals first | rfl

theorem appendTo_bind (te : TE) (lv : Lvl) (s x : List te.ty.D) (K : Leaf → Option R) : appendTo te lv s x K = (appendTo te lv s x some).bind K := by
  unfold appendTo
  cases h : decide ((s.length + x.length) * te.bytes ≤ 140737488355328) <;> rfl

theorem cond_none_bind {b : Bool} {α β : Type} {x : Option α} {k : α → Option β} {y : Option β} (h : y = x.bind k) : (bif b then y else none) = (bif b then x else none).bind k := by
  cases b
  · rfl
  · exact h
theorem bind_of {α β γ : Type} {z : Option γ} {f : γ → Option α} {g : γ → Option β} {k : α → Option β} (h : ∀ c, g c = (f c).bind k) : z.bind g = (z.bind f).bind k := by
  cases z
  · rfl
  · exact h _

theorem appendTo_comp (te : TE) (lv : Lvl) (s x : List te.ty.D) (G : Leaf → Env) (K : Env → Option R) : appendTo te lv s x (fun l => K (G l)) = (appendTo te lv s x (fun l => some (G l))).bind K := by
  rw [appendTo_bind, appendTo_bind te lv s x (fun l => some (G l))]
  exact bind_of (fun _ => rfl)
theorem binOp1_comp (op : BinOp) (t : TypeId) (x y : AV) (G : AV → Env) (K : Env → Option R) : binOp1 T op t x y (fun l => K (G l)) = (binOp1 T op t x y (fun l => some (G l))).bind K := by
  rw [binOp1_bind, binOp1_bind op t x y (fun l => some (G l))]
  exact bind_of (fun _ => rfl)
theorem unOp1_comp (op : UnOp) (x : AV) (G : AV → Env) (K : Env → Option R) : unOp1 op x (fun l => K (G l)) = (unOp1 op x (fun l => some (G l))).bind K := by
  rw [unOp1_bind, unOp1_bind op x (fun l => some (G l))]
  exact bind_of (fun _ => rfl)

theorem appendS_bind (d : Option Nat) (te : TE) (s : Operand) (xs : List te.ty.D) (deep : Bool) (env : Env) (K : Env → Option R) : appendS d te s xs deep env K = (appendS d te s xs deep env some).bind K := by
  unfold appendS
  repeat' split
  all_goals first | rfl | exact appendTo_comp _ _ _ _ _ _

theorem append1_bind (d : Option Nat) (t : TypeId) (s x : Operand) (env : Env) (K : Env → Option R) : append1 T d t s x env K = (append1 T d t s x env some).bind K := by
  unfold append1
  repeat' split
  all_goals first | rfl | exact appendS_bind _ _ _ _ _ _ _

theorem appendN_bind (d : Nat) (te : TE) (r j : Nat) (i : Int) (o : Nat) (x : Operand) (env : Env) (K : Env → Option R) : appendN d te r j i o x env K = (appendN d te r j i o x env some).bind K := by
  unfold appendN
  repeat' split
  all_goals first | rfl | skip
  all_goals (refine cond_none_bind ?_; repeat' split)
  all_goals first | rfl | exact appendTo_comp _ _ _ _ _ _

theorem storeGrow_bind (s r j : Nat) (i : Int) (o : Nat) (l : Leaf) (a : Operand) (env : Env) (K : Env → Option R) : storeGrow s r j i o l a env K = (storeGrow s r j i o l a env some).bind K := by
  unfold storeGrow
  repeat' split
  all_goals first | rfl | (exact cond_none_bind rfl) | (refine cond_none_bind ?_; split <;> rfl)

theorem callM_bind (d : Option Nat) (f : FuncId) (sg : Sig) (args : List Operand) (extra : List AV) (env : Env) (K : Env → Option R) : callM caps orc d f sg args extra env K = (callM caps orc d f sg args extra env some).bind K := by
  unfold callM
  split
  · split
    · simp only
      split
      · split
        · split
          · rfl
          · split
            · rfl
            · refine bind_of (fun xs => ?_)
              split
              · rfl
              · split
                · split
                  · rfl
                  · split <;> rfl
                · rfl
        · rfl
      · rfl
    · rfl
  · rfl

theorem callO_bind (d : Option Nat) (f : FuncId) (sg : Sig) (args : List Operand) (extra : List AV) (env : Env) (K : Env → Option R) : callO caps orc d f sg args extra env K = (callO caps orc d f sg args extra env some).bind K := by
  unfold callO
  split
  · split
    · split
      · simp only
        split
        · split
          · rfl
          · split
            · rfl
            · exact bind_of (fun xs => by split; · split <;> rfl
                                          · rfl)
        · rfl
      · rfl
    · rfl
  · rfl

theorem callS_bind (d : Option Nat) (f : FuncId) (sg : Sig) (args : List Operand) (extra : List AV) (env : Env) (K : Env → Option R) : callS orc d f sg args extra env K = (callS orc d f sg args extra env some).bind K := by
  unfold callS
  split
  · split
    · split
      · split
        · split
          · rfl
          · exact bind_of (fun xs => by split; · split <;> rfl
                                        · rfl)
        · rfl
      · rfl
    · rfl
  · rfl

theorem call1_bind (d : Option Nat) (f : FuncId) (args : List Operand) (extra : List AV) (env : Env) (K : Env → Option R) : call1 sig caps orc d f args extra env K = (call1 sig caps orc d f args extra env some).bind K := by
  unfold call1
  split
  · rfl
  · split
    · split
      · exact callS_bind _ _ _ _ _ _ _
      simp only
      split
      · split
        · rfl
        · split
          · rfl
          · exact bind_of (fun xs => by split <;> rfl)
      · rfl
    · split
      · exact callO_bind _ _ _ _ _ _ _
      · exact callM_bind _ _ _ _ _ _ _

theorem store1_bind (t : TypeId) (a v : Operand) (env : Env) (K : Env → Option R) : store1 T t a v env K = (store1 T t a v env some).bind K := by
  unfold store1
  split
  · split
    · exact storeGrow_bind _ _ _ _ _ _ _ _ _
    · rfl
  unfold storePlain
  repeat' split
  all_goals first | rfl | (refine cond_none_bind ?_; split <;> rfl) | (simp only; repeat' split) | skip
  all_goals first | rfl | exact cond_none_bind rfl

theorem evVal_bind (d : Nat) (o : Oper) (env : Env) (K : Env → Option R) : evVal T sig caps orc d o env K = (evVal T sig caps orc d o env some).bind K := by
  cases hop : o.op with
  | binOp op t x y t' => simp only [evVal, hop]; exact binOp1_comp _ _ _ _ _ _
  | unOp op t x => simp only [evVal, hop]; exact unOp1_comp _ _ _ _
  | pick cc a b =>
    simp only [evVal, hop]
    split
    · rename_i t _
      cases t <;> rfl
    · rfl
  | index t x i =>
    simp only [evVal, hop]
    split
    · exact bind_of (fun _ => rfl)
    · rfl
  | call cl =>
    simp only [evVal, hop]
    split
    · exact call1_bind _ _ _ _ _ _
    · split
      · exact call1_bind _ _ _ _ _ _
      · exact call1_bind _ _ _ _ _ _
      · rfl
    · repeat' split
      all_goals rfl
    · repeat' split
      all_goals first | rfl | exact append1_bind _ _ _ _ _ _ | exact appendN_bind _ _ _ _ _ _ _ _ _
    · repeat' split
      all_goals rfl
    · repeat' split
      all_goals rfl
    · rfl
  | makeFunc fn first captured =>
    cases fn with
    | func f =>
      simp only [evVal, hop]
      split
      · split
        · rfl
        · rfl
      · rfl
    | _ => simp only [evVal, hop]; rfl
  | slice t x lo hi mx =>
    simp only [evVal, hop]
    repeat' split
    all_goals first | rfl | exact cond_none_bind rfl
  | indexAddr t x i =>
    simp only [evVal, hop]
    repeat' split
    all_goals first | rfl | exact cond_none_bind rfl
  | makeSlice t l c =>
    simp only [evVal, hop]
    repeat' split
    all_goals first | rfl | exact cond_none_bind rfl
  | extract x i =>
    simp only [evVal, hop]
    repeat' split
    all_goals rfl
  | load t x =>
    simp only [evVal, hop]
    repeat' split
    all_goals rfl
  | fieldAddr t x f =>
    simp only [evVal, hop]
    repeat' split
    all_goals rfl
  | field t x f =>
    simp only [evVal, hop]
    repeat' split
    all_goals rfl
  | build t ps =>
    simp only [evVal, hop]
    repeat' split
    all_goals rfl
  | buildSlice t n ps =>
    simp only [evVal, hop]
    repeat' split
    all_goals rfl
  | convert t u x =>
    simp only [evVal, hop]
    repeat' split
    all_goals rfl
  | nilCheck x =>
    simp only [evVal, hop]
    repeat' split
    all_goals rfl
  | alloc e =>
    simp only [evVal, hop]
    repeat' split
    all_goals rfl
  | box e x =>
    simp only [evVal, hop]
    repeat' split
    all_goals rfl
  | assign x =>
    simp only [evVal, hop]
    repeat' split
    all_goals rfl
  | move x => simp only [evVal, hop]; rfl
  | _ => simp only [evVal, hop]; rfl

theorem evOp_bind (o : Oper) (env : Env) (K : Env → Option R) : evOp T sig caps orc o env K = (evOp T sig caps orc o env some).bind K := by
  unfold evOp
  repeat' split
  all_goals first | rfl | exact evVal_bind _ _ _ _ | exact store1_bind _ _ _ _ _

theorem skipOp_bind (o : Oper) (env : Env) (K : Env → Option R) : skipOp o env K = (skipOp o env some).bind K := by
  unfold skipOp
  repeat' split
  all_goals rfl

theorem evOps_cons (ops : Array Oper) (o : Oper) (rest : List Oper) (env : Env) (K : Env → Option R) : evOps T sig caps orc ops (o :: rest) env K = (evOps T sig caps orc ops [o] env some).bind fun env' => evOps T sig caps orc ops rest env' K := by
  simp only [evOps]
  split
  · exact evOp_bind _ _ _
  · split
    · rfl
    · split
      · exact skipOp_bind _ _ _
      · rename_i b _
        cases b
        · simp only [cond_false]
          split
          · exact skipOp_bind _ _ _
          · exact evOp_bind _ _ _
        · simp only [cond_true]
          split
          · exact evOp_bind _ _ _
          · exact skipOp_bind _ _ _
      · rfl
end
end Go.FP

/- Operations that only set their variable: what they read. Conditions: none. -/
namespace Go.FP
open Go.RowKit
set_option linter.unusedVariables false
set_option linter.unusedSimpArgs false

def rootsOf : AV → List Nat
  | .path r _ => [r]
  | .clo _ caps => caps.map (·.1)
  | _ => []
def opReads (env : Env) : Operand → List Nat
  | .tmp s => s :: rootsOf (get env s)
  | _ => []
def Agree (S : List Nat) (e1 e2 : Env) : Prop := e2.length = e1.length ∧ ∀ k ∈ S, get e2 k = get e1 k

theorem Agree.mono {S S' : List Nat} {e1 e2 : Env} (h : Agree S e1 e2) (hs : ∀ k ∈ S', k ∈ S) : Agree S' e1 e2 := ⟨h.1, fun k hk => h.2 k (hs k hk)⟩
theorem Agree.rd {env env2 : Env} {x : Operand} (h : Agree (opReads env x) env env2) (ty : Option Ty) : rd ty env2 x = rd ty env x := by
  cases x with
  | tmp s =>
    have := h.2 s (by simp [opReads])
    simp only [FP.rd, this]
  | _ => rfl
theorem Agree.reads {env env2 : Env} {x : Operand} (h : Agree (opReads env x) env env2) : opReads env2 x = opReads env x := by
  cases x with
  | tmp s =>
    have := h.2 s (by simp [opReads])
    simp only [opReads, this]
  | _ => rfl
theorem Agree.root {env env2 : Env} {x : Operand} {q off : Nat} (h : Agree (opReads env x) env env2) (ty : Option Ty) (hx : FP.rd ty env x = .path q off) : get env2 q = get env q ∨ (∃ s, x = .tmp s ∧ s = q) := by
  cases x with
  | tmp s =>
    simp only [FP.rd] at hx
    cases hg : get env s with
    | path r o =>
      rw [hg] at hx
      simp only [AV.path.injEq] at hx
      exact .inl (h.2 q (by simp [opReads, hg, rootsOf, hx.1]))
    | con k ls =>
      rw [hg] at hx
      cases k with
      | box e => simp only [AV.path.injEq] at hx; exact .inr ⟨s, rfl, hx.1⟩
      | _ => simp at hx
    | _ => rw [hg] at hx; simp at hx
  | const v =>
    exfalso
    have typed : ∀ ty, constAV ty v ≠ .path q off := by
      intro ty h
      unfold constAV at h
      split at h
      · simp at h
      · split at h
        · split at h
          · simp [mkCon] at h
          · simp at h
        · simp at h
    simp only [FP.rd] at hx
    split at hx <;> first | (simp at hx; done) | exact typed _ hx
  | func f => simp [FP.rd] at hx
  | global g => simp [FP.rd] at hx
theorem Agree.rootB {env env2 : Env} {x : Operand} {q off : Nat} (h : Agree (opReads env x) env env2) (ty : Option Ty) (hx : FP.rd ty env x = .path q off) : get env2 q = get env q := by
  rcases h.root ty hx with h1 | ⟨s, rfl, rfl⟩
  · exact h1
  · exact h.2 s (by simp [opReads])

/-- The operations that compute one value out of what they read. -/
def pureReads (env : Env) : Op → Option (List Nat)
  | .move x | .nilCheck x | .load _ x | .fieldAddr _ x _ | .field _ x _ | .unOp _ _ x | .convert _ _ x => some (opReads env x)
  | .pick c a b => some (opReads env c ++ (opReads env a ++ opReads env b))
  | .binOp _ _ x y _ | .indexAddr _ x y | .index _ x y | .makeSlice _ x y => some (opReads env x ++ opReads env y)
  | .alloc _ => some []
  | .makeFunc _ _ captured => some (captured.toList.flatMap (opReads env))
  | _ => none

section
variable {R : Type} {T : Tab} {sig : FuncId → Option Sig} {caps : FuncId → List Ty} {orc : Orc}

theorem binOp1_val {op : BinOp} {t : TypeId} {x y : AV} {G : AV → Env} {e : Env} (h : binOp1 T op t x y (fun v => some (G v)) = some e) : ∃ v, e = G v ∧ ∀ {A : Type} (K : AV → Option A), binOp1 T op t x y K = K v := by
  rw [binOp1_bind] at h
  obtain ⟨v, h1, h2⟩ := Option.bind_eq_some_iff.1 h
  exact ⟨v, (Option.some.inj h2).symm, fun K => by rw [binOp1_bind, h1]; rfl⟩
theorem unOp1_val {op : UnOp} {x : AV} {G : AV → Env} {e : Env} (h : unOp1 op x (fun v => some (G v)) = some e) : ∃ v, e = G v ∧ ∀ {A : Type} (K : AV → Option A), unOp1 op x K = K v := by
  rw [unOp1_bind] at h
  obtain ⟨v, h1, h2⟩ := Option.bind_eq_some_iff.1 h
  exact ⟨v, (Option.some.inj h2).symm, fun K => by rw [unOp1_bind, h1]; rfl⟩

theorem setD_quiet {env : Env} {d : Nat} (h : (get env d).quiet = true) (v : AV) : setD (some d) env v = put env d v := by
  simp only [setD, h, if_true]

theorem pure_mild {o : Oper} {d : Nat} {env e1 : Env} {Rd : List Nat} (hr : pureReads env o.op = some Rd) (hq : (get env d).quiet = true) (h : evVal T sig caps orc d o env some = some e1) :
    ∃ v, e1 = put env d v ∧ ∀ env2, Agree Rd env env2 → (get env2 d).quiet = true → evVal T sig caps orc d o env2 some = some (put env2 d v) ∧ pureReads env2 o.op = some Rd := by
  cases hop : o.op with
  | move x =>
    rw [hop] at hr
    simp only [pureReads, Option.some.injEq] at hr
    subst hr
    simp only [evVal, hop, Option.some.injEq] at h
    rw [setD_quiet hq] at h
    exact ⟨_, h.symm, fun env2 ha hq2 => ⟨by simp only [evVal, hop]; rw [ha.rd, setD_quiet hq2], by simp only [pureReads, ha.reads]⟩⟩
  | nilCheck x =>
    rw [hop] at hr
    simp only [pureReads, Option.some.injEq] at hr
    subst hr
    simp only [evVal, hop] at h
    split at h
    · rename_i q off hx
      simp only [Option.some.injEq] at h
      rw [setD_quiet hq] at h
      exact ⟨_, h.symm, fun env2 ha hq2 => ⟨by simp only [evVal, hop]; rw [ha.rd, hx]; simp only [setD_quiet hq2], by simp only [pureReads, ha.reads]⟩⟩
    · rename_i f cs hx
      simp only [Option.some.injEq] at h
      rw [setD_quiet hq] at h
      exact ⟨_, h.symm, fun env2 ha hq2 => ⟨by simp only [evVal, hop]; rw [ha.rd, hx]; simp only [setD_quiet hq2], by simp only [pureReads, ha.reads]⟩⟩
    · rename_i f cs hx
      simp only [Option.some.injEq] at h
      rw [setD_quiet hq] at h
      exact ⟨_, h.symm, fun env2 ha hq2 => ⟨by simp only [evVal, hop]; rw [ha.rd, hx]; simp only [setD_quiet hq2], by simp only [pureReads, ha.reads]⟩⟩
    · rename_i f cs hx
      simp only [Option.some.injEq] at h
      rw [setD_quiet hq] at h
      exact ⟨_, h.symm, fun env2 ha hq2 => ⟨by simp only [evVal, hop]; rw [ha.rd, hx]; simp only [setD_quiet hq2], by simp only [pureReads, ha.reads]⟩⟩
    · simp at h
  | load t x =>
    rw [hop] at hr
    simp only [pureReads, Option.some.injEq] at hr
    subst hr
    simp only [evVal, hop] at h
    split at h
    · rename_i τ ht
      split at h
      · rename_i q off hx
        split at h
        · rename_i e ls hb
          split at h
          · rename_i hty
            simp only [Option.some.injEq] at h
            rw [setD_quiet hq] at h
            exact ⟨_, h.symm, fun env2 ha hq2 => ⟨by simp only [evVal, hop]; rw [ht]; simp only; rw [ha.rd, hx]; simp only; rw [ha.rootB none hx, hb]; simp only; rw [if_pos hty, setD_quiet hq2], by simp only [pureReads, ha.reads]⟩⟩
          · simp at h
        · simp at h
      · rename_i ls wr hx
        split at h
        · rename_i hty
          simp only [Option.some.injEq] at h
          rw [setD_quiet hq] at h
          exact ⟨_, h.symm, fun env2 ha hq2 => ⟨by simp only [evVal, hop]; rw [ht]; simp only; rw [ha.rd, hx]; simp only; rw [if_pos hty, setD_quiet hq2], by simp only [pureReads, ha.reads]⟩⟩
        · simp at h
      · simp at h
    · simp at h
  | fieldAddr s x f =>
    rw [hop] at hr
    simp only [pureReads, Option.some.injEq] at hr
    subst hr
    simp only [evVal, hop] at h
    split at h
    · rename_i off τ hf
      split at h
      · rename_i q o' hx
        simp only [Option.some.injEq] at h
        rw [setD_quiet hq] at h
        exact ⟨_, h.symm, fun env2 ha hq2 => ⟨by simp only [evVal, hop]; rw [hf]; simp only; rw [ha.rd, hx]; simp only [setD_quiet hq2], by simp only [pureReads, ha.reads]⟩⟩
      · rename_i ls wr hx
        simp only [Option.some.injEq] at h
        rw [setD_quiet hq] at h
        exact ⟨_, h.symm, fun env2 ha hq2 => ⟨by simp only [evVal, hop]; rw [hf]; simp only; rw [ha.rd, hx]; simp only [setD_quiet hq2], by simp only [pureReads, ha.reads]⟩⟩
      · simp at h
    · simp at h
  | field s x f =>
    rw [hop] at hr
    simp only [pureReads, Option.some.injEq] at hr
    subst hr
    simp only [evVal, hop] at h
    split at h
    · rename_i off τ hf
      split at h
      · rename_i ls hx
        split at h
        · rename_i hty
          simp only [Option.some.injEq] at h
          rw [setD_quiet hq] at h
          exact ⟨_, h.symm, fun env2 ha hq2 => ⟨by simp only [evVal, hop]; rw [hf]; simp only; rw [ha.rd, hx]; simp only; rw [if_pos hty, setD_quiet hq2], by simp only [pureReads, ha.reads]⟩⟩
        · simp at h
      · simp at h
    · simp at h
  | unOp op t x =>
    rw [hop] at hr
    simp only [pureReads, Option.some.injEq] at hr
    subst hr
    simp only [evVal, hop] at h
    obtain ⟨v, rfl, hK⟩ := unOp1_val h
    exact ⟨v, setD_quiet hq v, fun env2 ha hq2 => ⟨by simp only [evVal, hop]; rw [ha.rd, hK, setD_quiet hq2], by simp only [pureReads, ha.reads]⟩⟩
  | convert s dt x =>
    rw [hop] at hr
    simp only [pureReads, Option.some.injEq] at hr
    subst hr
    simp only [evVal, hop] at h
    split at h
    · rename_i k k' k2 n hs ht hi
      simp only [Option.some.injEq] at h
      rw [setD_quiet hq] at h
      exact ⟨_, h.symm, fun env2 ha hq2 => ⟨by simp only [evVal, hop]; rw [hs, ht, ha.rd, hi]; simp only [setD_quiet hq2], by simp only [pureReads, ha.reads]⟩⟩
    · rename_i hne
      split at h
      · rename_i b hb
        simp only [Option.some.injEq] at h
        rw [setD_quiet hq] at h
        refine ⟨_, h.symm, fun env2 ha hq2 => ⟨?_, by simp only [pureReads, ha.reads]⟩⟩
        have e : (fun ty => rd ty env2 x) = (fun ty => rd ty env x) := funext fun ty => ha.rd ty
        simp only [evVal, hop]
        rw [ha.rd none, e]
        split
        · rename_i k k' k2 n hs ht hi
          exact (hne _ _ _ _ hs ht hi).elim
        · rw [hb]; simp only [setD_quiet hq2]
      · simp at h
  | pick cc x y =>
    rw [hop] at hr
    simp only [pureReads, Option.some.injEq] at hr
    subst hr
    simp only [evVal, hop] at h
    split at h
    · rename_i t hb
      cases t with
      | true =>
        simp only [cond_true, Option.some.injEq] at h
        rw [setD_quiet hq] at h
        refine ⟨_, h.symm, fun env2 ha hq2 => ?_⟩
        have h1 := ha.mono (S' := opReads env cc) (fun k hk => List.mem_append_left _ hk)
        have h2 := ha.mono (S' := opReads env x) (fun k hk => List.mem_append_right _ (List.mem_append_left _ hk))
        have h3 := ha.mono (S' := opReads env y) (fun k hk => List.mem_append_right _ (List.mem_append_right _ hk))
        exact ⟨by simp only [evVal, hop]; rw [h1.rd, hb]; simp only [cond_true]; rw [h2.rd, setD_quiet hq2], by simp only [pureReads, h1.reads, h2.reads, h3.reads]⟩
      | false =>
        simp only [cond_false, Option.some.injEq] at h
        rw [setD_quiet hq] at h
        refine ⟨_, h.symm, fun env2 ha hq2 => ?_⟩
        have h1 := ha.mono (S' := opReads env cc) (fun k hk => List.mem_append_left _ hk)
        have h2 := ha.mono (S' := opReads env x) (fun k hk => List.mem_append_right _ (List.mem_append_left _ hk))
        have h3 := ha.mono (S' := opReads env y) (fun k hk => List.mem_append_right _ (List.mem_append_right _ hk))
        exact ⟨by simp only [evVal, hop]; rw [h1.rd, hb]; simp only [cond_false]; rw [h3.rd, setD_quiet hq2], by simp only [pureReads, h1.reads, h2.reads, h3.reads]⟩
    · simp at h
  | binOp op t x y t' =>
    rw [hop] at hr
    simp only [pureReads, Option.some.injEq] at hr
    subst hr
    simp only [evVal, hop] at h
    obtain ⟨v, rfl, hK⟩ := binOp1_val h
    refine ⟨v, setD_quiet hq v, fun env2 ha hq2 => ?_⟩
    have h1 := ha.mono (S' := opReads env x) (fun k hk => List.mem_append_left _ hk)
    have h2 := ha.mono (S' := opReads env y) (fun k hk => List.mem_append_right _ hk)
    exact ⟨by simp only [evVal, hop]; rw [h1.rd, h2.rd, hK, setD_quiet hq2], by simp only [pureReads, h1.reads, h2.reads]⟩
  | indexAddr t x y =>
    rw [hop] at hr
    simp only [pureReads, Option.some.injEq] at hr
    subst hr
    simp only [evVal, hop] at h
    split at h
    · rename_i te he
      split at h
      · rename_i lx n hx hi
        split at h
        · rename_i xs hxs
          split at h
          · simp at h
          · rename_i hl
            obtain ⟨h0, h⟩ := bif_some h
            simp only [Option.some.injEq] at h
            rw [setD_quiet hq] at h
            refine ⟨_, h.symm, fun env2 ha hq2 => ?_⟩
            have h1 := ha.mono (S' := opReads env x) (fun k hk => List.mem_append_left _ hk)
            have h2 := ha.mono (S' := opReads env y) (fun k hk => List.mem_append_right _ hk)
            exact ⟨by simp only [evVal, hop]; rw [he]; simp only; rw [h1.rd, h2.rd, hx, hi]; simp only; rw [hxs]; simp only; rw [if_neg hl, h0]; simp only [cond_true, setD_quiet hq2], by simp only [pureReads, h1.reads, h2.reads]⟩
        · simp at h
      · simp at h
    · simp at h
  | index t x y =>
    rw [hop] at hr
    simp only [pureReads, Option.some.injEq] at hr
    subst hr
    simp only [evVal, hop] at h
    split at h
    · rename_i s k n ht hs hi
      obtain ⟨b, hb, h⟩ := Option.bind_eq_some_iff.1 h
      simp only [Option.some.injEq] at h
      rw [setD_quiet hq] at h
      refine ⟨_, h.symm, fun env2 ha hq2 => ?_⟩
      have h1 := ha.mono (S' := opReads env x) (fun k hk => List.mem_append_left _ hk)
      have h2 := ha.mono (S' := opReads env y) (fun k hk => List.mem_append_right _ hk)
      exact ⟨by simp only [evVal, hop]; rw [h1.rd, h2.rd, ht, hs, hi]; simp only; rw [hb]; simp only [Option.bind_some, setD_quiet hq2], by simp only [pureReads, h1.reads, h2.reads]⟩
    · simp at h
  | makeSlice t x y =>
    rw [hop] at hr
    simp only [pureReads, Option.some.injEq] at hr
    subst hr
    simp only [evVal, hop] at h
    split at h
    · rename_i te n m he hl hc
      obtain ⟨h0, h⟩ := bif_some h
      simp only [Option.some.injEq] at h
      rw [setD_quiet hq] at h
      refine ⟨_, h.symm, fun env2 ha hq2 => ?_⟩
      have h1 := ha.mono (S' := opReads env x) (fun k hk => List.mem_append_left _ hk)
      have h2 := ha.mono (S' := opReads env y) (fun k hk => List.mem_append_right _ hk)
      exact ⟨by simp only [evVal, hop]; rw [h1.rd, h2.rd, he, hl, hc]; simp only; rw [h0]; simp only [cond_true, setD_quiet hq2], by simp only [pureReads, h1.reads, h2.reads]⟩
    · simp at h
  | alloc e =>
    rw [hop] at hr
    simp only [pureReads, Option.some.injEq] at hr
    subst hr
    simp only [evVal, hop] at h
    split at h
    · rename_i τ he
      simp only [Option.some.injEq] at h
      rw [setD_quiet hq] at h
      exact ⟨_, h.symm, fun env2 ha hq2 => ⟨by simp only [evVal, hop]; rw [he]; simp only [setD_quiet hq2], rfl⟩⟩
    · simp at h
  | makeFunc fn first captured =>
    rw [hop] at hr
    simp only [pureReads, Option.some.injEq] at hr
    subst hr
    cases fn with
    | func f =>
      simp only [evVal, hop] at h
      split at h
      · rename_i hf
        split at h
        · rename_i cs hc
          simp only [Option.some.injEq] at h
          rw [setD_quiet hq] at h
          refine ⟨_, h.symm, fun env2 ha hq2 => ?_⟩
          have hx : ∀ x ∈ captured.toList, Agree (opReads env x) env env2 := fun x hx => ha.mono (fun k hk => List.mem_flatMap.2 ⟨x, hx, hk⟩)
          have hm : ∀ l : List Operand, (∀ x ∈ l, Agree (opReads env x) env env2) → l.mapM (fun x => match rd none env2 x with | .path r off => some (r, off) | _ => none) = l.mapM (fun x => match rd none env x with | .path r off => some (r, off) | _ => none) := by
            intro l hl
            induction l with
            | nil => rfl
            | cons x l ih =>
              rw [List.mapM_cons, List.mapM_cons, ih (fun y hy => hl y (List.mem_cons_of_mem _ hy)), (hl x List.mem_cons_self).rd]
          have hf2 : ∀ l : List Operand, (∀ x ∈ l, Agree (opReads env x) env env2) → l.flatMap (opReads env2) = l.flatMap (opReads env) := by
            intro l hl
            induction l with
            | nil => rfl
            | cons x l ih => rw [List.flatMap_cons, List.flatMap_cons, ih (fun y hy => hl y (List.mem_cons_of_mem _ hy)), (hl x List.mem_cons_self).reads]
          refine ⟨?_, by simp only [pureReads, hf2 _ hx]⟩
          simp only [evVal, hop]
          rw [if_pos hf]
          erw [(hm _ hx).trans hc]
          simp only [setD_quiet hq2]
        · simp at h
      · simp at h
    | _ => simp [evVal, hop] at h
  | _ => rw [hop] at hr; simp [pureReads] at hr
end
end Go.FP

/- More operations that only set their variable. Conditions: none. -/
namespace Go.FP
open Go.RowKit
set_option linter.unusedVariables false
set_option linter.unusedSimpArgs false

def Mode.isRo : Mode → Bool
  | .at_ .ro => true
  | _ => false
/-- Does a new owner take this operand in without any change of names? -/
def inert (env : Env) : Operand → Bool
  | .tmp s => match get env s with
    | .con k ls => k.plain && ls.all (fun l => l.m.isRo)
    | .undef => false
    | .grow _ _ _ _ _ => false
    | .junk => false
    | _ => true
  | _ => true

theorem isRo_eq {m : Mode} (h : m.isRo = true) : m = .at_ .ro := by
  cases m with
  | at_ lv => cases lv <;> simp [Mode.isRo] at h ⊢
  | _ => simp [Mode.isRo] at h

theorem freezeAll_ro : ∀ {ls : List Leaf} {env : Env}, ls.all (fun l => l.m.isRo) = true → freezeAll ls env = env
  | [], env, _ => rfl
  | l :: ls, env, h => by
    simp only [List.all_cons, Bool.and_eq_true] at h
    have hm := isRo_eq h.1
    unfold freezeAll
    rw [hm]
    exact freezeAll_ro h.2

theorem pull_ro {env : Env} {s q : Nat} {k : Kind} {ls : List Leaf} (hg : get env s = .con k ls) (hl : ls.all (fun l => l.m.isRo) = true) : pull s q env = env := by
  unfold pull
  rw [hg]
  simp only [AV.leaf?]
  split
  · rename_i t x r j hq
    have := isRo_eq (List.all_eq_true.1 hl _ (mem_leafAt hq))
    simp at this
  · rfl
theorem pulls_ro {env : Env} {s : Nat} {k : Kind} {ls : List Leaf} (hg : get env s = .con k ls) (hl : ls.all (fun l => l.m.isRo) = true) : ∀ n, pulls s n env = env
  | 0 => rfl
  | n + 1 => by rw [pulls, pulls_ro hg hl n, pull_ro hg hl]
theorem pullAll_ro {env : Env} {s : Nat} {k : Kind} {ls : List Leaf} (hg : get env s = .con k ls) (hl : ls.all (fun l => l.m.isRo) = true) : pullAll (.tmp s) env = env := by
  simp only [pullAll, hg]
  split
  · exact pulls_ro hg hl _
  · rfl
theorem takeIn_con {ty : Option Ty} {env : Env} {s : Nat} {k : Kind} {ls : List Leaf} (hg : get env s = .con k ls) (hk : k.plain = true) (hl : ls.all (fun l => l.m.isRo) = true) : takeIn ty env (.tmp s) = some (env, .con k ls) := by
  rw [takeIn, pullAll_ro hg hl]
  simp only [takeIn0, hg, hk, if_true, freezeAll_ro hl]
  have h1 : ls.all (fun l => l.m.settled) = true := List.all_eq_true.2 fun l hl' => by rw [isRo_eq (List.all_eq_true.1 hl l hl')]; rfl
  have h2 : ls.any (fun l => l.m.own) = false := by
    cases ha : ls.any (fun l => l.m.own) with
    | false => rfl
    | true =>
      obtain ⟨l, hl', ho⟩ := List.any_eq_true.1 ha
      rw [isRo_eq (List.all_eq_true.1 hl l hl')] at ho
      simp [Mode.own] at ho
  rw [if_pos (by exact ⟨trivial, h1⟩), h2]
  rfl

theorem takeIn_inert {env env2 : Env} {x : Operand} (h : inert env x = true) (ha : Agree (opReads env x) env env2) (ty : Option Ty) : ∃ av, takeIn ty env x = some (env, av) ∧ takeIn ty env2 x = some (env2, av) ∧ inert env2 x = true := by
  cases x with
  | tmp s =>
    have hg2 := ha.2 s (by simp [opReads])
    cases hg : get env s with
    | con k ls =>
      simp only [inert, hg, Bool.and_eq_true] at h
      rw [hg] at hg2
      exact ⟨_, takeIn_con hg h.1 h.2, takeIn_con hg2 h.1 h.2, by simp only [inert, hg2, Bool.and_eq_true]; exact h⟩
    | undef => simp [inert, hg] at h
    | grow _ _ _ _ _ => simp [inert, hg] at h
    | junk => simp [inert, hg] at h
    | skip => rw [hg] at hg2; exact ⟨.skip, by simp only [takeIn, pullAll, takeIn0, hg], by simp only [takeIn, pullAll, takeIn0, hg2], by simp only [inert, hg2]⟩
    | path r off => rw [hg] at hg2; exact ⟨.path r off, by simp only [takeIn, pullAll, takeIn0, hg], by simp only [takeIn, pullAll, takeIn0, hg2], by simp only [inert, hg2]⟩
    | eptr ls wr => rw [hg] at hg2; exact ⟨.eptr ls wr, by simp only [takeIn, pullAll, takeIn0, hg], by simp only [takeIn, pullAll, takeIn0, hg2], by simp only [inert, hg2]⟩
    | cloR f caps => rw [hg] at hg2; exact ⟨.cloR f caps, by simp only [takeIn, pullAll, takeIn0, hg], by simp only [takeIn, pullAll, takeIn0, hg2], by simp only [inert, hg2]⟩
    | clo f caps => rw [hg] at hg2; exact ⟨.clo f caps, by simp only [takeIn, pullAll, takeIn0, hg], by simp only [takeIn, pullAll, takeIn0, hg2], by simp only [inert, hg2]⟩
  | const v => exact ⟨_, rfl, rfl, rfl⟩
  | func f => exact ⟨_, rfl, rfl, rfl⟩
  | global g => exact ⟨_, rfl, rfl, rfl⟩

theorem takeAs_inert {env env1 env2 : Env} {x : Operand} {τ : Ty} {ls : List Leaf} (h : inert env x = true) (ha : Agree (opReads env x) env env2) (ht : takeAs τ env x = some (env1, ls)) : env1 = env ∧ takeAs τ env2 x = some (env2, ls) ∧ inert env2 x = true := by
  obtain ⟨av, h1, h2, h3⟩ := takeIn_inert h ha (some τ)
  unfold takeAs at ht ⊢
  rw [h1] at ht
  rw [h2]
  split at ht
  · rename_i e k ls' heq
    simp only [Option.some.injEq, Prod.mk.injEq] at heq
    obtain ⟨rfl, rfl⟩ := heq
    split at ht
    · rename_i hc
      simp only [Option.some.injEq, Prod.mk.injEq] at ht
      obtain ⟨rfl, rfl⟩ := ht
      exact ⟨rfl, by simp only; rw [if_pos hc], h3⟩
    · simp at ht
  · simp at ht

theorem elemParts_inert {t : Ty} {env2 : Env} : ∀ {parts : List (Nat × Operand)} {env env' : Env} {n : Nat} {xs : List t.D} {dp : Bool}, (∀ p ∈ parts, inert env p.2 = true) → (∀ p ∈ parts, Agree (opReads env p.2) env env2) → elemParts t env n parts = some (env', xs, dp) → env' = env ∧ elemParts t env2 n parts = some (env2, xs, dp)
  | [], env, env', n, xs, dp, _, _, h => by
    simp only [elemParts, Option.some.injEq, Prod.mk.injEq] at h ⊢
    exact ⟨h.1.symm, trivial, h.2⟩
  | (i, x) :: parts, env, env', n, xs, dp, hi, ha, h => by
    simp only [elemParts] at h ⊢
    split at h
    · rename_i hin
      rw [if_pos hin]
      cases hta : takeAs t env x with
      | none => rw [hta] at h; simp at h
      | some q =>
        obtain ⟨env1, l⟩ := q
        obtain ⟨e1, k2, _⟩ := takeAs_inert (hi _ List.mem_cons_self) (ha _ List.mem_cons_self) hta
        subst e1
        rw [hta] at h
        rw [k2]
        simp only at h ⊢
        split at h
        · rename_i v hv
          split at h
          · rename_i e2 vs d hrec
            obtain ⟨rfl, k3⟩ := elemParts_inert (fun p hp => hi p (List.mem_cons_of_mem _ hp)) (fun p hp => ha p (List.mem_cons_of_mem _ hp)) hrec
            rw [k3]
            simp only [Option.some.injEq, Prod.mk.injEq] at h ⊢
            exact ⟨h.1.symm, trivial, h.2⟩
          · simp at h
        · simp at h
    · simp at h

theorem buildParts_inert {T : Tab} {t : TypeId} {env2 : Env} : ∀ {parts : List (Nat × Operand)} {env env' : Env} {ls ls' : List Leaf}, (∀ p ∈ parts, inert env p.2 = true) → (∀ p ∈ parts, Agree (opReads env p.2) env env2) → buildParts T t env ls parts = some (env', ls') → env' = env ∧ buildParts T t env2 ls parts = some (env2, ls')
  | [], env, env', ls, ls', _, _, h => by
    simp only [buildParts, Option.some.injEq, Prod.mk.injEq] at h ⊢
    exact ⟨h.1.symm, trivial, h.2⟩
  | (f, x) :: parts, env, env', ls, ls', hi, ha, h => by
    simp only [buildParts] at h ⊢
    split at h
    · rename_i off τ hf
      cases hta : takeAs τ env x with
      | none => rw [hta] at h; simp at h
      | some q =>
        obtain ⟨env1, l⟩ := q
        obtain ⟨e1, k2, _⟩ := takeAs_inert (hi _ List.mem_cons_self) (ha _ List.mem_cons_self) hta
        subst e1
        rw [hta] at h
        rw [k2]
        simp only at h ⊢
        split at h
        · rename_i hle
          rw [if_pos hle]
          exact buildParts_inert (fun p hp => hi p (List.mem_cons_of_mem _ hp)) (fun p hp => ha p (List.mem_cons_of_mem _ hp)) h
        · simp at h
    · simp at h

/-! ### calls -/
theorem rd_roots (ty : Option Ty) (env : Env) (x : Operand) : ∀ q ∈ rootsOf (rd ty env x), q ∈ opReads env x := by
  have typed : ∀ ty v, rootsOf (constAV ty v) = [] := by
    intro ty v
    unfold constAV
    split
    · rfl
    · split
      · split <;> rfl
      · rfl
  cases x with
  | tmp s =>
    intro q hq
    simp only [rd] at hq
    cases hg : get env s with
    | con k ls => rw [hg] at hq; cases k <;> simp [rootsOf] at hq ⊢ <;> simp [opReads, hq]
    | path r off => rw [hg] at hq; simp [rootsOf] at hq; simp [opReads, hg, rootsOf, hq]
    | clo f cs => rw [hg] at hq; simp only [opReads, hg]; exact List.mem_cons_of_mem _ hq
    | _ => rw [hg] at hq; simp [rootsOf] at hq
  | const v =>
    intro q hq
    simp only [rd] at hq
    split at hq <;> first | (simp [rootsOf] at hq; done) | (rw [typed] at hq; simp at hq)
  | func f => intro q hq; simp [rd, rootsOf] at hq
  | global g => intro q hq; simp [rd, rootsOf] at hq

theorem capsOf_agree {env env2 : Env} : ∀ {cs : List (Nat × Nat)} {ts : List Ty}, (∀ p ∈ cs, get env2 p.1 = get env p.1) → capsOf env2 cs ts = capsOf env cs ts
  | [], [], _ => rfl
  | [], t :: ts, _ => rfl
  | p :: cs, [], _ => rfl
  | (q, off) :: cs, t :: ts, h => by
    have h1 := h (q, off) List.mem_cons_self
    simp only [capsOf, capsOf_agree (ts := ts) (fun p hp => h p (List.mem_cons_of_mem _ hp))]
    have : ptrOf env2 t q off = ptrOf env t q off := by
      unfold ptrOf
      have h1 : get env2 q = get env q := h1
      rw [h1]
    rw [this]

theorem RVs_agree {caps : FuncId → List Ty} {env env2 : Env} : ∀ {ps : List PTy} {vs : List AV}, (∀ v ∈ vs, ∀ q ∈ rootsOf v, get env2 q = get env q) → RVs caps env2 ps vs = RVs caps env ps vs
  | [], [], _ => rfl
  | [], v :: vs, _ => rfl
  | p :: ps, [], _ => rfl
  | p :: ps, v :: vs, h => by
    have h1 := h v List.mem_cons_self
    have : RVof caps env2 p v = RVof caps env p v := by
      unfold RVof
      split
      · rfl
      · rename_i t q off
        have h2 : get env2 q = get env q := h1 q (by simp [rootsOf])
        unfold ptrOf
        rw [h2]
      · rfl
      · rfl
      · rename_i f cs
        rw [capsOf_agree (fun p hp => h1 p.1 (by simp only [rootsOf]; exact List.mem_map.2 ⟨p, hp, rfl⟩))]
      · rfl
    simp only [RVs, this, RVs_agree (ps := ps) (fun v hv => h v (List.mem_cons_of_mem _ hv))]

theorem rdArgs_agree {env env2 : Env} : ∀ {ps : List PTy} {xs : List Operand}, (∀ x ∈ xs, Agree (opReads env x) env env2) → rdArgs env2 ps xs = rdArgs env ps xs
  | [], xs, _ => by cases xs <;> rfl
  | p :: ps, [], _ => rfl
  | p :: ps, x :: xs, h => by
    simp only [rdArgs]
    rw [(h x List.mem_cons_self).rd, rdArgs_agree (fun y hy => h y (List.mem_cons_of_mem _ hy))]
theorem rdArgs_roots {env : Env} : ∀ {ps : List PTy} {xs : List Operand}, ∀ v ∈ rdArgs env ps xs, ∀ q ∈ rootsOf v, ∃ x ∈ xs, q ∈ opReads env x
  | [], xs, v, hv => by cases xs <;> simp [rdArgs] at hv
  | p :: ps, [], v, hv => by simp [rdArgs] at hv
  | p :: ps, x :: xs, v, hv => by
    simp only [rdArgs, List.mem_cons] at hv
    intro q hq
    rcases hv with rfl | hv
    · exact ⟨x, List.mem_cons_self, rd_roots _ _ _ q hq⟩
    · obtain ⟨y, hy, h⟩ := rdArgs_roots v hv q hq
      exact ⟨y, List.mem_cons_of_mem _ hy, h⟩

section
variable {T : Tab} {sig : FuncId → Option Sig} {caps : FuncId → List Ty} {orc : Orc}

def freshSig (sig : FuncId → Option Sig) (f : FuncId) : Bool := match sig f with
  | some sg => !sg.muts && (!sg.own && allFresh sg.results)
  | none => false

theorem call1_fresh {d : Nat} {f : FuncId} {args : List Operand} {extra : List AV} {env e1 env2 : Env} (hf : freshSig sig f = true) (hq : (get env d).quiet = true) (h : call1 sig caps orc (some d) f args extra env some = some e1) :
    ∃ v, e1 = put env d v ∧ ∀ env2, (∀ x ∈ args, Agree (opReads env x) env env2) → (∀ v ∈ extra, ∀ q ∈ rootsOf v, get env2 q = get env q) → (get env2 d).quiet = true → call1 sig caps orc (some d) f args extra env2 some = some (put env2 d v) := by
  unfold call1 at h
  split at h
  · simp at h
  · rename_i sg hsg
    have hmf : sg.muts = false ∧ sg.own = false ∧ allFresh sg.results = true := by simpa [freshSig, hsg] using hf
    have haf := hmf.2.2
    split at h
    · rename_i hm
      rw [if_neg (by rw [hmf.2.1]; simp)] at h
      simp only at h
      split at h
      · rename_i hc
        split at h
        · simp at h
        · rename_i rvs hrv
          split at h
          · simp at h
          rename_i q hq'
          obtain ⟨xs, hxs, h⟩ := Option.bind_eq_some_iff.1 h
          split at h
          · simp at h
          · rename_i v hv
            simp only [Option.some.injEq] at h
            rw [setD_quiet hq] at h
            refine ⟨v, h.symm, fun env2 ha he hq2 => ?_⟩
            have hrd := rdArgs_agree (ps := sg.params) ha
            have hrv2 : RVs caps env2 sg.params (rdArgs env sg.params args ++ extra) = some rvs := by
              rw [RVs_agree, hrv]
              intro v hv q hq
              rcases List.mem_append.1 hv with hv | hv
              · obtain ⟨x, hx, hqx⟩ := rdArgs_roots v hv q hq
                exact (ha x hx).2 q hqx
              · exact he v hv q hq
            unfold call1
            rw [hsg]
            simp only [hm, hrd]
            rw [if_neg (by rw [hmf.2.1]; simp)]
            rw [if_pos hc, hrv2]
            simp only [hq', hxs, Option.bind_some, hv]
            rw [if_pos haf, setD_quiet hq2]
      · simp at h
    · rename_i hm; rw [hmf.1] at hm; simp at hm
end
end Go.FP

/- Footprints. Conditions: none. -/
namespace Go.FP
open Go.RowKit
set_option linter.unusedVariables false
set_option linter.unusedSimpArgs false

def allReads (env : Env) (xs : List Operand) : List Nat := xs.flatMap (opReads env)

def footVal (sig : FuncId → Option Sig) (env : Env) (d : Nat) (o : Oper) : Foot1 :=
  if (get env d).quiet then
    match pureReads env o.op with
    | some Rd => some (d, Rd)
    | none => match o.op with
      | .assign x => if inert env x then some (d, opReads env x) else none
      | .box _ x => if inert env x then some (d, opReads env x) else none
      | .build _ ps => if ps.toList.all (fun p => inert env p.2) then some (d, allReads env (ps.toList.map (·.2))) else none
      | .buildSlice _ _ ps => if ps.toList.all (fun p => inert env p.2) then some (d, allReads env (ps.toList.map (·.2))) else none
      | .slice _ x lo hi _ => if inert env x then some (d, opReads env x ++ allReads env (lo.toList ++ hi.toList)) else none
      | .extract x _ => match x with
        | .tmp s => match get env s with
          | .con (.tup _) ls => if ls.all (fun l => !l.m.own) then some (d, [s]) else none
          | _ => none
        | _ => none
      | .call c => match c.callee with
        | .value (.func f) => if freshSig sig f then some (d, allReads env c.args.toList) else none
        | .value (.tmp t) => match get env t with
          | .clo f _ => if freshSig sig f then some (d, opReads env (.tmp t) ++ allReads env c.args.toList) else none
          | _ => none
        | .builtin .len => some (d, allReads env c.args.toList)
        | .builtin .max => some (d, allReads env c.args.toList)
        | .builtin .min => some (d, allReads env c.args.toList)
        | _ => none
      | _ => none
  else none

theorem allReads_agree {env env2 : Env} : ∀ {xs : List Operand}, Agree (allReads env xs) env env2 → (∀ x ∈ xs, Agree (opReads env x) env env2) ∧ allReads env2 xs = allReads env xs
  | [], _ => ⟨by simp, rfl⟩
  | x :: xs, h => by
    have h1 := h.mono (S' := opReads env x) (fun k hk => by simp only [allReads, List.flatMap_cons]; exact List.mem_append_left _ hk)
    have h2 := h.mono (S' := allReads env xs) (fun k hk => by simp only [allReads, List.flatMap_cons]; exact List.mem_append_right _ hk)
    obtain ⟨k1, k2⟩ := allReads_agree h2
    refine ⟨fun y hy => ?_, ?_⟩
    · rcases List.mem_cons.1 hy with rfl | hy
      · exact h1
      · exact k1 y hy
    · simp only [allReads, List.flatMap_cons] at k2 ⊢
      rw [h1.reads, k2]

theorem inert_nest {env : Env} {x : Operand} (h : inert env x = true) : nestB env x = false := by
  cases x with
  | tmp s =>
    cases hg : get env s with
    | con k ls =>
      simp only [inert, hg, Bool.and_eq_true] at h
      have : (ls.any fun l => l.m.nested) = false := by
        rw [List.any_eq_false]
        intro l hl
        rw [isRo_eq (List.all_eq_true.1 h.2 l hl)]
        simp [Mode.nested]
      simp [nestB, hg, this]
    | _ => simp [nestB, hg]
  | _ => rfl
theorem optInt_agree {env env2 : Env} : ∀ {lo : Option Operand}, (∀ x ∈ lo.toList, Agree (opReads env x) env env2) → optInt env2 lo = optInt env lo
  | none, _ => rfl
  | some x, h => by simp only [optInt]; rw [(h x (by simp)).rd]
theorem freeze_inert {env : Env} {x : Operand} {ty : Option Ty} {lx : Leaf} (h : inert env x = true) (hx : rd ty env x = .con .val [lx]) (e : Env) : freezeAll [lx] e = e := by
  have hm : lx.m.settled = true := by
    cases x with
    | tmp s =>
      cases hg : get env s with
      | con k ls =>
        simp only [inert, hg, Bool.and_eq_true] at h
        cases k with
        | val =>
          simp only [rd, hg, AV.con.injEq, true_and] at hx
          cases ls with
          | nil => simp [borrowFrom] at hx
          | cons l ls =>
            simp only [borrowFrom, List.cons.injEq] at hx
            have hl : l.m.isRo = true := List.all_eq_true.1 h.2 l (by simp)
            rw [isRo_eq hl] at hx
            simp only [Mode.own, Bool.false_eq_true, if_false] at hx
            rw [← hx.1, isRo_eq hl]
            rfl
        | agg => simp [rd, hg] at hx
        | tup sh => simp [rd, hg] at hx
        | box e => simp [rd, hg] at hx
      | _ => simp [rd, hg] at hx
    | const v => exact takeIn_settled (ty := ty) (env := env) (env' := env) (x := .const v) (k := .val) (ls := [lx]) (by rw [← hx]; rfl) lx (by simp)
    | func f => simp [rd] at hx
    | global g => simp [rd] at hx
  simp only [freezeAll]
  split
  · rename_i hb; rw [hb] at hm; simp [Mode.settled] at hm
  · rfl

section
variable {T : Tab} {sig : FuncId → Option Sig} {caps : FuncId → List Ty} {orc : Orc}

theorem footVal_mild {o : Oper} {d t : Nat} {env e1 : Env} {Rd : List Nat} (hf : footVal sig env d o = some (t, Rd)) (h : evVal T sig caps orc d o env some = some e1) :
    t = d ∧ ∃ v, e1 = put env d v ∧ ∀ env2, Agree (d :: Rd) env env2 → evVal T sig caps orc d o env2 some = some (put env2 d v) ∧ footVal sig env2 d o = some (d, Rd) := by
  unfold footVal at hf
  split at hf
  · rename_i hq
    have quiet2 : ∀ {env2 : Env} {S : List Nat}, Agree (d :: S) env env2 → (get env2 d).quiet = true := fun ha => by rw [ha.2 d List.mem_cons_self]; exact hq
    have tail : ∀ {env2 : Env} {S : List Nat}, Agree (d :: S) env env2 → Agree S env env2 := fun ha => ha.mono (fun k hk => List.mem_cons_of_mem _ hk)
    cases hp : pureReads env o.op with
    | some Rd0 =>
      rw [hp] at hf
      simp only [Option.some.injEq, Prod.mk.injEq] at hf
      obtain ⟨rfl, rfl⟩ := hf
      obtain ⟨v, e, k⟩ := pure_mild hp hq h
      refine ⟨rfl, v, e, fun env2 ha => ?_⟩
      obtain ⟨k1, k2⟩ := k env2 (tail ha) (quiet2 ha)
      exact ⟨k1, by unfold footVal; rw [if_pos (quiet2 ha), k2]⟩
    | none =>
      rw [hp] at hf
      simp only at hf
      have none2 : ∀ env2 : Env, pureReads env2 o.op = none := by
        intro env2
        cases hop : o.op <;> rw [hop] at hp <;> simp [pureReads] at hp ⊢
      cases hop : o.op with
      | assign x =>
        rw [hop] at hf
        simp only at hf
        split at hf
        · rename_i hi
          simp only [Option.some.injEq, Prod.mk.injEq] at hf
          obtain ⟨rfl, rfl⟩ := hf
          simp only [evVal, hop] at h
          obtain ⟨av, k1, _, _⟩ := takeIn_inert hi (env2 := env) ⟨rfl, fun _ _ => rfl⟩ (T.ty o.type)
          rw [inert_nest hi, k1] at h
          simp only [Bool.false_eq_true, if_false, Option.some.injEq] at h
          rw [setD_quiet hq] at h
          refine ⟨rfl, av, h.symm, fun env2 ha => ?_⟩
          obtain ⟨av', k1', k2', k3'⟩ := takeIn_inert hi (tail ha) (T.ty o.type)
          rw [k1] at k1'
          simp only [Option.some.injEq, Prod.mk.injEq] at k1'
          refine ⟨by simp only [evVal, hop]; rw [inert_nest k3', k2']; simp only [Bool.false_eq_true, if_false]; rw [setD_quiet (quiet2 ha), ← k1'.2], ?_⟩
          unfold footVal
          rw [if_pos (quiet2 ha), none2 env2]
          simp only [hop, k3', if_true, (tail ha).reads]
        · simp at hf
      | box e x =>
        rw [hop] at hf
        simp only at hf
        split at hf
        · rename_i hi
          simp only [Option.some.injEq, Prod.mk.injEq] at hf
          obtain ⟨rfl, rfl⟩ := hf
          simp only [evVal, hop] at h
          split at h
          · rename_i τ he
            split at h
            · rename_i env' ls hta
              obtain ⟨rfl, _, _⟩ := takeAs_inert hi (env2 := env) ⟨rfl, fun _ _ => rfl⟩ hta
              simp only [Option.some.injEq] at h
              rw [setD_quiet hq] at h
              refine ⟨rfl, _, h.symm, fun env2 ha => ?_⟩
              obtain ⟨_, k2', k3'⟩ := takeAs_inert hi (tail ha) hta
              refine ⟨by simp only [evVal, hop]; rw [he]; simp only; rw [k2']; simp only; rw [setD_quiet (quiet2 ha)], ?_⟩
              unfold footVal
              rw [if_pos (quiet2 ha), none2 env2]
              simp only [hop, k3', if_true, (tail ha).reads]
            · simp at h
          · simp at h
        · simp at hf
      | build t' ps =>
        rw [hop] at hf
        simp only at hf
        split at hf
        · rename_i hi
          simp only [Option.some.injEq, Prod.mk.injEq] at hf
          obtain ⟨rfl, rfl⟩ := hf
          have hi' : ∀ p ∈ ps.toList, inert env p.2 = true := fun p hp => List.all_eq_true.1 hi p hp
          simp only [evVal, hop] at h
          split at h
          · rename_i τ he
            split at h
            · rename_i hag
              split at h
              · rename_i env' ls hb
                obtain ⟨rfl, _⟩ := buildParts_inert hi' (env2 := env) (fun _ _ => ⟨rfl, fun _ _ => rfl⟩) hb
                simp only [Option.some.injEq] at h
                rw [setD_quiet hq] at h
                refine ⟨rfl, _, h.symm, fun env2 ha => ?_⟩
                obtain ⟨a1, a2⟩ := allReads_agree (tail ha)
                have a1' : ∀ p ∈ ps.toList, Agree (opReads env' p.2) env' env2 := fun p hp => a1 _ (List.mem_map.2 ⟨p, hp, rfl⟩)
                obtain ⟨_, k2⟩ := buildParts_inert hi' a1' hb
                have hi2 : ps.toList.all (fun p => inert env2 p.2) = true := List.all_eq_true.2 fun p hp => (takeIn_inert (hi' p hp) (a1' p hp) none).choose_spec.2.2
                refine ⟨by simp only [evVal, hop]; rw [he]; simp only; rw [if_pos hag, k2]; simp only; rw [setD_quiet (quiet2 ha)], ?_⟩
                unfold footVal
                rw [if_pos (quiet2 ha), none2 env2]
                simp only [hop, hi2, if_true, a2]
              · simp at h
            · simp at h
          · simp at h
        · simp at hf
      | buildSlice t' n ps =>
        rw [hop] at hf
        simp only at hf
        split at hf
        · rename_i hi
          simp only [Option.some.injEq, Prod.mk.injEq] at hf
          obtain ⟨rfl, rfl⟩ := hf
          have hi' : ∀ p ∈ ps.toList, inert env p.2 = true := fun p hp => List.all_eq_true.1 hi p hp
          simp only [evVal, hop] at h
          split at h
          · rename_i te he
            split at h
            · rename_i hc
              split at h
              · rename_i env' xs dp hb
                obtain ⟨rfl, _⟩ := elemParts_inert hi' (env2 := env) (fun _ _ => ⟨rfl, fun _ _ => rfl⟩) hb
                simp only [Option.some.injEq] at h
                rw [setD_quiet hq] at h
                refine ⟨rfl, _, h.symm, fun env2 ha => ?_⟩
                obtain ⟨a1, a2⟩ := allReads_agree (tail ha)
                have a1' : ∀ p ∈ ps.toList, Agree (opReads env' p.2) env' env2 := fun p hp => a1 _ (List.mem_map.2 ⟨p, hp, rfl⟩)
                obtain ⟨_, k2⟩ := elemParts_inert hi' a1' hb
                have hi2 : ps.toList.all (fun p => inert env2 p.2) = true := List.all_eq_true.2 fun p hp => (takeIn_inert (hi' p hp) (a1' p hp) none).choose_spec.2.2
                refine ⟨by simp only [evVal, hop]; rw [he]; simp only; rw [if_pos hc, k2]; simp only; rw [setD_quiet (quiet2 ha)], ?_⟩
                unfold footVal
                rw [if_pos (quiet2 ha), none2 env2]
                simp only [hop, hi2, if_true, a2]
              · simp at h
            · simp at h
          · simp at h
        · simp at hf
      | slice t' x lo hi mx =>
        rw [hop] at hf
        simp only at hf
        split at hf
        · rename_i hin
          simp only [Option.some.injEq, Prod.mk.injEq] at hf
          obtain ⟨rfl, rfl⟩ := hf
          have key : ∀ env2, Agree (d :: (opReads env x ++ allReads env (lo.toList ++ hi.toList))) env env2 → footVal sig env2 d o = some (d, opReads env x ++ allReads env (lo.toList ++ hi.toList)) ∧ (∀ ty, rd ty env2 x = rd ty env x) ∧ optInt env2 lo = optInt env lo ∧ optInt env2 hi = optInt env hi := fun env2 ha => by
            have a0 := (tail ha).mono (S' := opReads env x) (fun k hk => List.mem_append_left _ hk)
            obtain ⟨a1, a2⟩ := allReads_agree ((tail ha).mono (fun k hk => List.mem_append_right _ hk))
            obtain ⟨_, _, _, a3⟩ := takeIn_inert hin a0 none
            refine ⟨?_, fun ty => a0.rd ty, optInt_agree (fun y hy => a1 y (by simp at hy ⊢; simp [hy])), optInt_agree (fun y hy => a1 y (by simp at hy ⊢; simp [hy]))⟩
            unfold footVal
            rw [if_pos (quiet2 ha), none2 env2]
            simp only [hop, a3, if_true, a0.reads, a2]
          simp only [evVal, hop] at h
          split at h
          · simp at h
          · split at h
            · rename_i va vb hva hvb
              split at h
              · rename_i sx hsx
                split at h
                · rename_i hty
                  have hc : (decide (0 ≤ va.getD 0) && (decide (va.getD 0 ≤ vb.getD (sx.size : Int)) && decide (vb.getD (sx.size : Int) ≤ (sx.size : Int)))) = true := by
                    cases hcc : (decide (0 ≤ va.getD 0) && (decide (va.getD 0 ≤ vb.getD (sx.size : Int)) && decide (vb.getD (sx.size : Int) ≤ (sx.size : Int)))) with
                    | true => rfl
                    | false => rw [hcc] at h; simp at h
                  rw [hc] at h
                  simp only [cond_true, Option.some.injEq] at h
                  rw [setD_quiet hq] at h
                  refine ⟨rfl, _, h.symm, fun env2 ha => ?_⟩
                  obtain ⟨b1, b2, b3, b4⟩ := key env2 ha
                  refine ⟨?_, b1⟩
                  simp only [evVal, hop, b2, b3, b4, hva, hvb, hsx, hty, hc, cond_true]
                  rw [setD_quiet (quiet2 ha)]
                · simp at h
              · rename_i hsx
                split at h
                · rename_i te hte
                  split at h
                  · rename_i lx hrd
                    split at h
                    · rename_i xs has
                      split at h
                      · simp at h
                      · rename_i hl
                        have hc : (decide (0 ≤ va.getD 0) && (decide (va.getD 0 ≤ vb.getD (xs.length : Int)) && decide (vb.getD (xs.length : Int) ≤ (xs.length : Int)))) = true := by
                          cases hcc : (decide (0 ≤ va.getD 0) && (decide (va.getD 0 ≤ vb.getD (xs.length : Int)) && decide (vb.getD (xs.length : Int) ≤ (xs.length : Int)))) with
                          | true => rfl
                          | false => rw [hcc] at h; simp at h
                        rw [hc] at h
                        simp only [cond_true, Option.some.injEq] at h
                        rw [freeze_inert hin hrd, setD_quiet hq] at h
                        refine ⟨rfl, _, h.symm, fun env2 ha => ?_⟩
                        obtain ⟨b1, b2, b3, b4⟩ := key env2 ha
                        refine ⟨?_, b1⟩
                        simp only [evVal, hop, b2, b3, b4, hva, hvb, hsx, hte, hrd, has, hc, cond_true]
                        rw [if_neg hl, freeze_inert hin hrd, setD_quiet (quiet2 ha)]
                    · simp at h
                  · simp at h
                · simp at h
            · simp at h
        · simp at hf
      | extract x i =>
        rw [hop] at hf
        simp only at hf
        split at hf
        · rename_i s
          split at hf
          · rename_i sh ls hs
            split at hf
            · rename_i hno
              simp only [Option.some.injEq, Prod.mk.injEq] at hf
              obtain ⟨rfl, rfl⟩ := hf
              simp only [evVal, hop, hs] at h
              split at h
              · rename_i off agg n ho
                have hany : (takeLs n (dropLs off ls)).any (fun l => l.m.own) = false := by
                  cases ha : (takeLs n (dropLs off ls)).any (fun l => l.m.own) with
                  | false => rfl
                  | true =>
                    obtain ⟨l, hl, hlo⟩ := List.any_eq_true.1 ha
                    rw [takeLs_eq, dropLs_eq] at hl
                    have := List.all_eq_true.1 hno l (List.mem_of_mem_drop (List.mem_of_mem_take hl))
                    rw [hlo] at this
                    simp at this
                split at h
                · rename_i hlive
                  simp only [hany, Bool.false_eq_true, if_false, Option.some.injEq] at h
                  rw [setD_quiet hq] at h
                  refine ⟨rfl, _, h.symm, fun env2 ha => ?_⟩
                  have hs2 : get env2 s = .con (.tup sh) ls := (ha.2 s (by simp)).trans hs
                  refine ⟨by simp only [evVal, hop, hs2, ho]; rw [if_pos hlive]; simp only [hany, Bool.false_eq_true, if_false]; rw [setD_quiet (quiet2 ha)], ?_⟩
                  unfold footVal
                  rw [if_pos (quiet2 ha), none2 env2]
                  simp only [hop, hs2, hno, if_true]
                · simp at h
              · simp at h
            · simp at hf
          · simp at hf
        · simp at hf
      | call cl =>
        rw [hop] at hf
        simp only at hf
        split at hf
        · rename_i f hc
          split at hf
          · rename_i hfr
            simp only [Option.some.injEq, Prod.mk.injEq] at hf
            obtain ⟨rfl, rfl⟩ := hf
            simp only [evVal, hop, hc] at h
            obtain ⟨v, e, k⟩ := call1_fresh (env2 := env) hfr hq h
            refine ⟨rfl, v, e, fun env2 ha => ?_⟩
            obtain ⟨a1, a2⟩ := allReads_agree (tail ha)
            refine ⟨by simp only [evVal, hop, hc]; exact k env2 a1 (by simp) (quiet2 ha), ?_⟩
            unfold footVal
            rw [if_pos (quiet2 ha), none2 env2]
            simp only [hop, hc, hfr, if_true, a2]
          · simp at hf
        · rename_i t' hc
          split at hf
          · rename_i f cs ht
            split at hf
            · rename_i hfr
              simp only [Option.some.injEq, Prod.mk.injEq] at hf
              obtain ⟨rfl, rfl⟩ := hf
              simp only [evVal, hop, hc, ht] at h
              obtain ⟨v, e, k⟩ := call1_fresh (env2 := env) hfr hq h
              refine ⟨rfl, v, e, fun env2 ha => ?_⟩
              have hb := (tail ha).mono (S' := opReads env (.tmp t')) (fun k hk => List.mem_append_left _ hk)
              obtain ⟨a1, a2⟩ := allReads_agree ((tail ha).mono (fun k hk => List.mem_append_right _ hk))
              have ht2 : get env2 t' = .clo f cs := (hb.2 t' (by simp [opReads])).trans ht
              refine ⟨by
                simp only [evVal, hop, hc, ht2]
                refine k env2 a1 (fun v hv q hq => ?_) (quiet2 ha)
                simp only [List.mem_map] at hv
                obtain ⟨p, hp, rfl⟩ := hv
                simp only [rootsOf, List.mem_singleton] at hq
                refine hb.2 q ?_
                simp only [opReads, ht, rootsOf]
                exact List.mem_cons_of_mem _ (List.mem_map.2 ⟨p, hp, hq.symm⟩), ?_⟩
              unfold footVal
              rw [if_pos (quiet2 ha), none2 env2]
              simp only [hop, hc, ht2, hfr, if_true, a2, hb.reads]
            · simp at hf
          · simp at hf
        · rename_i hc
          simp only [Option.some.injEq, Prod.mk.injEq] at hf
          obtain ⟨rfl, rfl⟩ := hf
          have key : ∀ env2, Agree (d :: allReads env cl.args.toList) env env2 → footVal sig env2 d o = some (d, allReads env cl.args.toList) := fun env2 ha => by
            unfold footVal
            rw [if_pos (quiet2 ha), none2 env2]
            simp only [hop, hc, (allReads_agree (tail ha)).2]
          simp only [evVal, hop, hc] at h
          split at h
          · rename_i x t' hargs htys
            have hx : ∀ env2, Agree (d :: allReads env cl.args.toList) env env2 → Agree (opReads env x) env env2 := fun env2 ha => (allReads_agree (tail ha)).1 x (by rw [hargs]; simp)
            split at h
            · rename_i s hs
              split at h
              · rename_i ht
                simp only [Option.some.injEq] at h
                rw [setD_quiet hq] at h
                exact ⟨rfl, _, h.symm, fun env2 ha => ⟨by simp only [evVal, hop, hc, hargs, htys]; rw [(hx env2 ha).rd, hs]; simp only; rw [ht]; simp only; rw [setD_quiet (quiet2 ha)], key env2 ha⟩⟩
              · simp at h
            · rename_i hs
              split at h
              · rename_i e τ ht
                split at h
                · rename_i lx hrd
                  split at h
                  · rename_i xs hxs
                    split at h
                    · rename_i hl
                      simp only [Option.some.injEq] at h
                      rw [setD_quiet hq] at h
                      exact ⟨rfl, _, h.symm, fun env2 ha => ⟨by simp only [evVal, hop, hc, hargs, htys]; rw [(hx env2 ha).rd, hs]; simp only; rw [ht]; simp only; rw [(hx env2 ha).rd, hrd]; simp only; rw [hxs]; simp only; rw [if_pos hl, setD_quiet (quiet2 ha)], key env2 ha⟩⟩
                    · simp at h
                  · simp at h
                · simp at h
              · simp at h
          · simp at h
        · rename_i hc
          simp only [Option.some.injEq, Prod.mk.injEq] at hf
          obtain ⟨rfl, rfl⟩ := hf
          simp only [evVal, hop, hc] at h
          split at h
          · rename_i x y hargs
            split at h
            · rename_i k n k' m hx hy
              split at h
              · rename_i hkk
                simp only [Option.some.injEq] at h
                rw [setD_quiet hq] at h
                refine ⟨rfl, _, h.symm, fun env2 ha => ?_⟩
                obtain ⟨a1, a2⟩ := allReads_agree (tail ha)
                refine ⟨by simp only [evVal, hop, hc, hargs]; rw [(a1 x (by rw [hargs]; simp)).rd, (a1 y (by rw [hargs]; simp)).rd, hx, hy]; simp only; rw [if_pos hkk, setD_quiet (quiet2 ha)], ?_⟩
                unfold footVal
                rw [if_pos (quiet2 ha), none2 env2]
                simp only [hop, hc, a2]
              · simp at h
            · simp at h
          · simp at h
        · rename_i hc
          simp only [Option.some.injEq, Prod.mk.injEq] at hf
          obtain ⟨rfl, rfl⟩ := hf
          simp only [evVal, hop, hc] at h
          split at h
          · rename_i x y hargs
            split at h
            · rename_i k n k' m hx hy
              split at h
              · rename_i hkk
                simp only [Option.some.injEq] at h
                rw [setD_quiet hq] at h
                refine ⟨rfl, _, h.symm, fun env2 ha => ?_⟩
                obtain ⟨a1, a2⟩ := allReads_agree (tail ha)
                refine ⟨by simp only [evVal, hop, hc, hargs]; rw [(a1 x (by rw [hargs]; simp)).rd, (a1 y (by rw [hargs]; simp)).rd, hx, hy]; simp only; rw [if_pos hkk, setD_quiet (quiet2 ha)], ?_⟩
                unfold footVal
                rw [if_pos (quiet2 ha), none2 env2]
                simp only [hop, hc, a2]
              · simp at h
            · simp at h
          · simp at h
        · simp at hf
      | _ => rw [hop] at hf; simp at hf
  · simp at hf
end
end Go.FP

/- Regions with open order. Conditions: none. -/
namespace Go.FP
open Go.RowKit
set_option linter.unusedVariables false
set_option linter.unusedSimpArgs false

/-- Rows that a region itself makes and that append alone takes: nobody refers to them. -/
def AV.free (TS : List Nat) (v : AV) : Bool := (v.refs.all fun q => !TS.contains q.1) && v.ptrs.all fun q => !TS.contains q
def ownRow : AV → Bool
  | .con .val [⟨.slice _ te, _, .at_ .dp⟩] => te.flatB
  | .con .val [⟨.slice _ te, _, .at_ .sh⟩] => te.flatB
  | _ => false
def isTmp (s : Nat) : Operand → Bool
  | .tmp s' => Nat.beq s s'
  | _ => false
/-- The footprint of append to such a row. -/
def footApp (T : Tab) (TS : List Nat) (env : Env) (d : Nat) (o : Oper) : Foot := match o.op with
  | .call c => match c.callee with
    | .builtin .append => match c.args.toList, c.argTypes.toList with
      | [.tmp ts, x], [t, _] => match elemAt T t with
        | some te => if (TS.contains ts && !(Nat.beq d ts)) && ((get env d).quiet && ((ownRow (get env ts) && te.ty.flatB) && !isTmp ts x)) then some ([ts, d], opReads env x) else none
        | none => none
      | _, _ => none
    | _ => none
  | _ => none
def Foot.reads (xs : List Nat) : Foot → Foot
  | some (W, R) => some (W, xs ++ R)
  | none => none
def footRun (T : Tab) (sig : FuncId → Option Sig) (TS : List Nat) (o : Oper) (env : Env) : Foot := match o.dst with
  | some d => match footVal sig env d o with
    | some (t, R) => some ([t], R)
    | none => footApp T TS env d o
  | none => none
def footSkip (o : Oper) (env : Env) : Foot := match o.dst with
  | some d => if (get env d).quiet then some ([d], []) else none
  | none => none
/-- The footprint of an operation, its guard looked at. -/
def footG (T : Tab) (sig : FuncId → Option Sig) (TS : List Nat) (ops : Array Oper) (o : Oper) (env : Env) : Foot := match o.guard with
  | none => footRun T sig TS o env
  | some (j, want) => match (ops[j]?).bind (·.dst) with
    | none => none
    | some dj => match get env dj with
      | .skip => Foot.reads [dj] (footSkip o env)
      | .con .val [⟨.bool, b, .at_ .ro⟩] => if b = want then Foot.reads [dj] (footRun T sig TS o env) else Foot.reads [dj] (footSkip o env)
      | _ => none

abbrev Fr (TS : List Nat) : AV → Prop := fun v => v.free TS = true

/-- Names for a place that nobody refers to: nothing changes. -/
theorem chg_free {TS : List Nat} {s : Nat} (hs : s ∈ TS) {v : AV} (h : v.free TS = true) : v.chg (killG s) = v := by
  simp only [AV.free, Bool.and_eq_true, List.all_eq_true, Bool.not_eq_true', List.contains_eq_mem, decide_eq_false_iff_not] at h
  obtain ⟨h1, h2⟩ := h
  have hne : ∀ q ∈ v.refs, q.1 ≠ s := fun q hq e => h1 q hq (e ▸ hs)
  have hne2 : ∀ q ∈ v.ptrs, q ≠ s := fun q hq e => h2 q hq (e ▸ hs)
  have leaf : ∀ l : Leaf, (∀ q ∈ l.refs, q.1 ≠ s) → l.chg (killG s) = l := by
    intro l hl
    obtain ⟨t, x, m⟩ := l
    cases m with
    | at_ _ => rfl
    | dead => rfl
    | bor r j p => simp only [Leaf.chg, killG]; rw [if_neg (hl (r, j) (by simp [Leaf.refs]))]
  have leaves : ∀ ls : List Leaf, (∀ q ∈ ls.flatMap Leaf.refs, q.1 ≠ s) → chgs (killG s) ls = ls := by
    intro ls
    induction ls with
    | nil => intro _; rfl
    | cons l ls ih =>
      intro hls
      rw [chgs, leaf l (fun q hq => hls q (by simp [hq])), ih (fun q hq => hls q (by rw [List.flatMap_cons]; exact List.mem_append_right _ hq))]
  cases v with
  | con k ls => simp only [AV.chg]; rw [leaves ls hne]
  | path r off => simp only [AV.chg]; rw [if_neg (by simpa [killG] using hne2 r (by simp [AV.ptrs]))]
  | eptr ls wr =>
    cases wr with
    | none => simp only [AV.chg]; rw [leaves ls (fun q hq => hne q (by simp only [AV.refs, List.append_nil]; exact hq))]
    | some w =>
      simp only [AV.chg]
      rw [leaves ls (fun q hq => hne q (by simp only [AV.refs]; exact List.mem_append_left _ hq)), if_neg (by simpa [killG] using hne (w.1, w.2.1) (by simp [AV.refs]))]
  | clo f caps =>
    simp only [AV.chg]
    rw [if_neg]
    simp only [List.any_eq_true, not_exists, not_and]
    intro q hq
    simpa [killG] using hne2 q.1 (by simp only [AV.ptrs, List.mem_map]; exact ⟨q, hq, rfl⟩)
  | grow r j i o l => simp only [AV.chg]; rw [if_neg (by simpa [killG] using hne (r, j) (by simp [AV.refs]))]
  | _ => rfl
theorem chgEnv_free {TS : List Nat} {s : Nat} (hs : s ∈ TS) : ∀ {env : Env}, AllJ (Fr TS) env → chgEnv (killG s) env = env
  | [], _ => rfl
  | v :: env, h => by
    show v.chg _ :: chgEnv _ env = _
    have h0 : Fr TS v := h 0
    rw [chg_free hs h0, chgEnv_free hs (fun r => h (r + 1))]

theorem ownRow_spec {v : AV} (h : ownRow v = true) : ∃ e te xs lv, v = .con .val [⟨.slice e te, xs, .at_ lv⟩] ∧ te.flatB = true ∧ (lv = .dp ∨ lv = .sh) := by
  unfold ownRow at h
  split at h
  · exact ⟨_, _, _, _, rfl, h, .inl rfl⟩
  · exact ⟨_, _, _, _, rfl, h, .inr rfl⟩
  · simp at h

theorem grab_own {TS : List Nat} {env : Env} {ts : Nat} {e : TypeId} {te : Ty} {ss : List te.D} {lv : Lvl} (hJ : AllJ (Fr TS) env) (hts : ts ∈ TS) (hg : get env ts = .con .val [⟨.slice e te, ss, .at_ lv⟩]) (hlv : lv = .dp ∨ lv = .sh) (ty : Ty) :
    grabS ty env (.tmp ts) = some (put env ts .undef, .con .val [⟨.slice e te, ss, .at_ lv⟩]) := by
  have hp : pullAll (.tmp ts) env = env := by
    simp only [pullAll, hg, Kind.plain, if_true, List.length_singleton, pulls]
    unfold pull
    rw [hg]
    rfl
  have hown : (Mode.at_ lv).own = true := by rcases hlv with rfl | rfl <;> rfl
  have htake : takeIn (some ty) env (.tmp ts) = some (put env ts .undef, .con .val [⟨.slice e te, ss, .at_ lv⟩]) := by
    unfold takeIn
    rw [hp]
    simp only [takeIn0, hg, Kind.plain, if_true, freezeAll]
    rw [if_pos ⟨trivial, by simp [Mode.settled]⟩]
    simp only [List.any_cons, hown, Bool.true_or, if_true]
    unfold killRoot
    rw [chgEnv_free hts hJ]
  unfold grabS
  simp only [hg]
  exact htake

/-- append to an own row that nobody refers to. -/
theorem append_own {TS : List Nat} {T : Tab} {env : Env} {d ts : Nat} {t : TypeId} {t' : TE} {x : Operand} {e : TypeId} {te : Ty} {ss : List te.D} {lv : Lvl} {lx : Leaf} {xs s' : List t'.ty.D} (he : elemAt T t = some t') (hfl : t'.ty.flatB = true) (hJ : AllJ (Fr TS) env) (hts : ts ∈ TS) (hd : d ≠ ts) (hq : (get env d).quiet = true) (hg : get env ts = .con .val [⟨.slice e te, ss, .at_ lv⟩]) (hlv : lv = .dp ∨ lv = .sh)
    (hrd : rd (some (.slice t'.id t'.ty)) env x = .con .val [lx]) (has : lx.as (.slice t'.id t'.ty) = some xs) (hl : lx.m.live = true) (has2 : (⟨.slice e te, ss, .at_ lv⟩ : Leaf).as (.slice t'.id t'.ty) = some s') :
    append1 T (some d) t (.tmp ts) x env some = appendTo t' lv s' xs fun l => some (puts env [ts, d] [.undef, .con .val [l]]) := by
  have hq2 : (get (put env ts .undef) d).quiet = true := by
    rw [get_put]
    split
    · rfl
    · exact hq
  unfold append1
  simp only [he, hfl, if_true, hrd, has, hl]
  unfold appendS
  rw [grab_own hJ hts hg hlv]
  simp only [has2]
  rcases hlv with rfl | rfl
  · simp only [if_true]
    congr 1
    funext l
    rw [setD_quiet hq2]; rfl
  · simp only
    congr 1
    funext l
    rw [setD_quiet hq2]; rfl
theorem append_own_inv {TS : List Nat} {T : Tab} {env e1 : Env} {d ts : Nat} {t : TypeId} {t' : TE} {x : Operand} {e : TypeId} {te : Ty} {ss : List te.D} {lv : Lvl} (he : elemAt T t = some t') (hfl : t'.ty.flatB = true) (hJ : AllJ (Fr TS) env) (hts : ts ∈ TS) (hg : get env ts = .con .val [⟨.slice e te, ss, .at_ lv⟩]) (hlv : lv = .dp ∨ lv = .sh)
    (h : append1 T (some d) t (.tmp ts) x env some = some e1) : ∃ (lx : Leaf) (xs s' : List t'.ty.D), rd (some (.slice t'.id t'.ty)) env x = .con .val [lx] ∧ lx.as (.slice t'.id t'.ty) = some xs ∧ lx.m.live = true ∧ (⟨.slice e te, ss, .at_ lv⟩ : Leaf).as (.slice t'.id t'.ty) = some s' := by
  unfold append1 at h
  simp only [he, hfl, if_true] at h
  split at h
  · rename_i lx hrd
    split at h
    · rename_i xs has
      split at h
      · rename_i hl
        unfold appendS at h
        rw [grab_own hJ hts hg hlv] at h
        simp only at h
        split at h
        · rename_i s' has2
          exact ⟨lx, xs, s', hrd, has, hl, has2⟩
        · simp at h
      · simp at h
    · simp at h
  · simp at h

section
variable {T : Tab} {sig : FuncId → Option Sig} {caps : FuncId → List Ty} {orc : Orc} {TS : List Nat}

theorem footVal_app {env : Env} {d : Nat} {o : Oper} {c : Call} (ho : o.op = .call c) (hc : c.callee = .builtin .append) : footVal sig env d o = none := by
  unfold footVal
  split
  · simp only [ho, pureReads, hc]
  · rfl

theorem footApp_mild {o : Oper} {d : Nat} {env e1 : Env} {W Rd : List Nat} (hJ : AllJ (Fr TS) env) (hf : footApp T TS env d o = some (W, Rd)) (h : evVal T sig caps orc d o env some = some e1) :
    ∃ vs, vs.length = W.length ∧ e1 = puts env W vs ∧ ∀ env2, AllJ (Fr TS) env2 → Agree (W ++ Rd) env env2 → evVal T sig caps orc d o env2 some = some (puts env2 W vs) ∧ footVal sig env2 d o = none ∧ footApp T TS env2 d o = some (W, Rd) := by
  unfold footApp at hf
  split at hf
  · rename_i c ho
    split at hf
    · rename_i hc
      split at hf
      · rename_i ts x t t0 hargs htys
        split at hf
        · rename_i t1 he
          split at hf
          · rename_i hcond
            simp only [Bool.and_eq_true, Bool.not_eq_true', List.contains_eq_mem, decide_eq_true_eq] at hcond
            obtain ⟨⟨hts, hdt⟩, hq, ⟨hown, hfl⟩, hxt⟩ := hcond
            have hdt' : d ≠ ts := fun e => by rw [e] at hdt; simp at hdt
            simp only [Option.some.injEq, Prod.mk.injEq] at hf
            obtain ⟨rfl, rfl⟩ := hf
            obtain ⟨e, te, ss, lv, hg, _, hlv⟩ := ownRow_spec hown
            -- the operation, in any such environment
            have hop : ∀ (env' : Env), get env' ts = get env ts → evVal T sig caps orc d o env' some = if t = t0 then append1 T (some d) t (.tmp ts) x env' some else none := by
              intro env' hg'
              have hn : nestOf env' (.tmp ts) = none := by
                unfold nestOf
                simp only [hg', hg]
              simp only [evVal, ho, hc, hargs, htys, hn]
            rw [hop env rfl] at h
            split at h
            · rename_i htt
              obtain ⟨lx, xs, s1, hrd, has, hl, has1⟩ := append_own_inv he hfl hJ hts hg hlv h
              rw [append_own he hfl hJ hts hdt' hq hg hlv hrd has hl has1] at h
              unfold appendTo at h
              obtain ⟨hb, h⟩ := bif_some h
              simp only [Option.some.injEq] at h
              refine ⟨[.undef, .con .val [⟨.slice t1.id t1.ty, s1 ++ xs, .at_ lv⟩]], rfl, h.symm, fun env2 hJ2 ha => ?_⟩
              have h1 : get env2 d = get env d := ha.2 d (by simp)
              have h3 : get env2 ts = get env ts := ha.2 ts (by simp)
              have hax : Agree (opReads env x) env env2 := ha.mono (S' := opReads env x) (fun k hk => List.mem_append_right _ hk)
              refine ⟨?_, footVal_app ho hc, ?_⟩
              · rw [hop env2 h3, if_pos htt, append_own he hfl hJ2 hts hdt' (by rw [h1]; exact hq) (by rw [h3]; exact hg) hlv (by rw [hax.rd]; exact hrd) has hl has1]
                unfold appendTo
                rw [hb]; rfl
              · unfold footApp
                simp only [ho, hc, hargs, htys, he]
                rw [h1, h3, hax.reads, if_pos]
                simp [hts, hdt, hq, hown, hxt, hfl]
            · simp at h
          · simp at hf
        · simp at hf
      · simp at hf
    · simp at hf
  · simp at hf
theorem footRun_mild {o : Oper} {env e1 : Env} {W Rd : List Nat} (hJ : AllJ (Fr TS) env) (hf : footRun T sig TS o env = some (W, Rd)) (h : evOp T sig caps orc o env some = some e1) :
    ∃ vs, vs.length = W.length ∧ e1 = puts env W vs ∧ ∀ env2, AllJ (Fr TS) env2 → Agree (W ++ Rd) env env2 → evOp T sig caps orc o env2 some = some (puts env2 W vs) ∧ footRun T sig TS o env2 = some (W, Rd) := by
  unfold footRun at hf
  unfold evOp at h
  split at hf
  · rename_i d hd
    rw [hd] at h
    simp only at h
    split at h
    · rename_i hlt
      split at hf
      · rename_i t R hfv
        simp only [Option.some.injEq, Prod.mk.injEq] at hf
        obtain ⟨rfl, rfl⟩ := hf
        obtain ⟨rfl, v, e, k⟩ := footVal_mild hfv h
        refine ⟨[v], rfl, e, fun env2 _ ha => ?_⟩
        obtain ⟨k1, k2⟩ := k env2 ha
        exact ⟨by unfold evOp; rw [hd]; simp only; rw [if_pos (by rw [ha.1]; exact hlt)]; exact k1, by unfold footRun; rw [hd]; simp only; rw [k2]⟩
      · rename_i hfv
        obtain ⟨vs, e0, e, k⟩ := footApp_mild hJ hf h
        refine ⟨vs, e0, e, fun env2 hJ2 ha => ?_⟩
        obtain ⟨k1, k2, k3⟩ := k env2 hJ2 ha
        exact ⟨by unfold evOp; rw [hd]; simp only; rw [if_pos (by rw [ha.1]; exact hlt)]; exact k1, by unfold footRun; rw [hd]; simp only; rw [k2]; exact k3⟩
    · simp at h
  · simp at hf

theorem footSkip_mild {o : Oper} {env e1 : Env} {W Rd : List Nat} (hf : footSkip o env = some (W, Rd)) (h : skipOp o env some = some e1) :
    ∃ vs, vs.length = W.length ∧ e1 = puts env W vs ∧ ∀ env2, Agree (W ++ Rd) env env2 → skipOp o env2 some = some (puts env2 W vs) ∧ footSkip o env2 = some (W, Rd) := by
  unfold footSkip at hf
  unfold skipOp at h
  split at hf
  · rename_i d hd
    rw [hd] at h
    simp only at h
    split at hf
    · rename_i hq
      simp only [Option.some.injEq, Prod.mk.injEq] at hf
      obtain ⟨rfl, rfl⟩ := hf
      split at h
      · rename_i hlt
        simp only [Option.some.injEq] at h
        rw [setD_quiet hq] at h
        refine ⟨[.skip], rfl, h.symm, fun env2 ha => ?_⟩
        have hq2 : (get env2 d).quiet = true := by rw [ha.2 d (by simp)]; exact hq
        exact ⟨by unfold skipOp; rw [hd]; simp only; rw [if_pos (by rw [ha.1]; exact hlt), setD_quiet hq2]; rfl, by unfold footSkip; rw [hd]; simp only; rw [if_pos hq2]⟩
      · simp at h
    · simp at hf
  · simp at hf

theorem reads_some {xs : List Nat} {f : Foot} {W Rd : List Nat} (h : Foot.reads xs f = some (W, Rd)) : ∃ R, f = some (W, R) ∧ Rd = xs ++ R := by
  cases f with
  | none => simp [Foot.reads] at h
  | some p =>
    obtain ⟨W', R⟩ := p
    simp only [Foot.reads, Option.some.injEq, Prod.mk.injEq] at h
    exact ⟨R, by rw [h.1], h.2.symm⟩

theorem footG_mild {ops : Array Oper} {o : Oper} {env e1 : Env} {W Rd : List Nat} (hJ : AllJ (Fr TS) env) (hf : footG T sig TS ops o env = some (W, Rd)) (h : evOps T sig caps orc ops [o] env some = some e1) :
    ∃ vs, vs.length = W.length ∧ e1 = puts env W vs ∧ ∀ env2, AllJ (Fr TS) env2 → Agree (W ++ Rd) env env2 → evOps T sig caps orc ops [o] env2 some = some (puts env2 W vs) ∧ footG T sig TS ops o env2 = some (W, Rd) := by
  simp only [evOps] at h
  unfold footG at hf
  cases hg : o.guard with
  | none =>
    rw [hg] at h hf
    simp only at h hf
    obtain ⟨vs, e0, e, k⟩ := footRun_mild hJ hf h
    refine ⟨vs, e0, e, fun env2 hJ2 ha => ?_⟩
    obtain ⟨k1, k2⟩ := k env2 hJ2 ha
    exact ⟨by simp only [evOps, hg]; exact k1, by unfold footG; rw [hg]; exact k2⟩
  | some g =>
    obtain ⟨j, want⟩ := g
    rw [hg] at h hf
    simp only at h hf
    cases hj : (ops[j]?).bind (·.dst) with
    | none => rw [hj] at h; simp at h
    | some dj =>
      rw [hj] at h hf
      simp only at h hf
      have split2 : ∀ {R : List Nat} {env2 : Env}, Rd = [dj] ++ R → Agree (W ++ Rd) env env2 → get env2 dj = get env dj ∧ Agree (W ++ R) env env2 := by
        intro R env2 hR ha
        subst hR
        exact ⟨ha.2 dj (by simp), ha.mono (fun k hk => by
          rcases List.mem_append.1 hk with hk | hk
          · simp [hk]
          · simp [hk])⟩
      split at h
      · rename_i hs
        rw [hs] at hf
        simp only at hf
        obtain ⟨R, hf1, hR⟩ := reads_some hf
        obtain ⟨vs, e0, e, k⟩ := footSkip_mild hf1 h
        refine ⟨vs, e0, e, fun env2 hJ2 ha => ?_⟩
        obtain ⟨a1, a2⟩ := split2 hR ha
        rw [hs] at a1
        obtain ⟨k1, k2⟩ := k env2 a2
        exact ⟨by simp only [evOps, hg, hj, a1]; exact k1, by unfold footG; rw [hg]; simp only [hj, a1, k2, Foot.reads, hR]⟩
      · rename_i b hs
        rw [hs] at hf
        simp only at hf
        have hput : put env dj (vBool b) = env := put_self hs
        have fin : ∀ (b' : Bool), b' = b → (if b' = want then evOp T sig caps orc o env some else skipOp o env some) = some e1 → ∃ vs, vs.length = W.length ∧ e1 = puts env W vs ∧ ∀ env2, AllJ (Fr TS) env2 → Agree (W ++ Rd) env env2 → evOps T sig caps orc ops [o] env2 some = some (puts env2 W vs) ∧ footG T sig TS ops o env2 = some (W, Rd) := by
          intro b' hb' hh
          subst hb'
          by_cases hw : b' = want
          · rw [if_pos hw] at hh hf
            obtain ⟨R, hf1, hR⟩ := reads_some hf
            obtain ⟨vs, e0, e, k⟩ := footRun_mild hJ hf1 hh
            refine ⟨vs, e0, e, fun env2 hJ2 ha => ?_⟩
            obtain ⟨a1, a2⟩ := split2 hR ha
            rw [hs] at a1
            obtain ⟨k1, k2⟩ := k env2 hJ2 a2
            have hput2 : put env2 dj (vBool b') = env2 := put_self a1
            refine ⟨?_, by unfold footG; rw [hg]; simp only [hj, a1, k2, Foot.reads, hR]; rw [if_pos hw]⟩
            simp only [evOps, hg, hj, a1]
            subst hw
            cases b' with
            | true => simp only [cond_true, if_true]; rw [hput2]; exact k1
            | false => simp only [cond_false, Bool.false_eq_true, if_false]; rw [hput2]; exact k1
          · rw [if_neg hw] at hh hf
            obtain ⟨R, hf1, hR⟩ := reads_some hf
            obtain ⟨vs, e0, e, k⟩ := footSkip_mild hf1 hh
            refine ⟨vs, e0, e, fun env2 hJ2 ha => ?_⟩
            obtain ⟨a1, a2⟩ := split2 hR ha
            rw [hs] at a1
            obtain ⟨k1, k2⟩ := k env2 a2
            have hput2 : put env2 dj (vBool b') = env2 := put_self a1
            refine ⟨?_, by unfold footG; rw [hg]; simp only [hj, a1, k2, Foot.reads, hR]; rw [if_neg hw]⟩
            simp only [evOps, hg, hj, a1]
            cases b' with
            | true => cases want with
              | true => exact absurd rfl hw
              | false => simp only [cond_true, Bool.false_eq_true, if_false]; rw [hput2]; exact k1
            | false => cases want with
              | true => simp only [cond_false, if_true]; rw [hput2]; exact k1
              | false => exact absurd rfl hw
        refine fin b rfl ?_
        cases b with
        | true =>
          simp only [cond_true] at h
          rw [hput] at h
          cases want with
          | true => simpa using h
          | false => simpa using h
        | false =>
          simp only [cond_false] at h
          rw [hput] at h
          cases want with
          | true => simpa using h
          | false => simpa using h
      · simp at h

/-- Step and footprint of an operation by its number. -/
def stepI (T : Tab) (sig : FuncId → Option Sig) (caps : FuncId → List Ty) (orc : Orc) (ops : Array Oper) (i : Nat) (env : Env) : Option Env := match ops[i]? with
  | some o => evOps T sig caps orc ops [o] env some
  | none => none
def footI (T : Tab) (sig : FuncId → Option Sig) (TS : List Nat) (ops : Array Oper) (i : Nat) (env : Env) : Foot := match ops[i]? with
  | some o => footG T sig TS ops o env
  | none => none
theorem mildI (ops : Array Oper) : Mild (Fr TS) (stepI T sig caps orc ops) (footI T sig TS ops) := by
  intro i env W Rd env' hJ hf hs
  unfold stepI at hs
  unfold footI at hf
  cases ho : ops[i]? with
  | none => rw [ho] at hs; simp at hs
  | some o =>
    rw [ho] at hs hf
    simp only at hs hf
    obtain ⟨vs, e0, e, k⟩ := footG_mild hJ hf hs
    refine ⟨vs, e0, e, fun env2 hJ2 hl ha => ?_⟩
    obtain ⟨k1, k2⟩ := k env2 hJ2 ⟨hl, ha⟩
    exact ⟨by unfold stepI; rw [ho]; exact k1, by unfold footI; rw [ho]; exact k2⟩

theorem trace_ev {R : Type} {ops : Array Oper} {φ : Nat → Foot} {E : Env} {K : Env → Option R} {r : R} (hK : K E = some r) : ∀ {l : List Nat} {env : Env}, Trace (Fr TS) (stepI T sig caps orc ops) (footI T sig TS ops) l env E φ → evOps T sig caps orc ops (l.filterMap (ops[·]?)) env K = some r
  | [], env, h => by
    obtain ⟨_, h⟩ := h
    subst h
    exact hK
  | i :: l, env, ⟨_, _, e1, h1, h2⟩ => by
    unfold stepI at h1
    cases ho : ops[i]? with
    | none => rw [ho] at h1; simp at h1
    | some o =>
      rw [ho] at h1
      simp only at h1
      rw [List.filterMap_cons_some (by exact ho), evOps_cons, h1]
      exact trace_ev hK h2
end
end Go.FP

/- The evaluator of regions with open order. Conditions: none. -/
namespace Go.FP
open Go.RowKit
set_option linter.unusedVariables false
set_option linter.unusedSimpArgs false

def ancMask (ms : List Nat) : List Edge → Nat
  | [] => 0
  | e :: r => if Region.binds .any e then (2 ^ e.on ||| ms.getD e.on 0) ||| ancMask ms r else ancMask ms r
def notIn (t : Nat) : List Nat → Bool
  | [] => true
  | x :: r => !(Nat.beq x t) && notIn t r
def disB : Foot → Foot → Bool
  | some (W, R), some (W', R') => (W.all fun w => notIn w W' && notIn w R') && W'.all fun w => notIn w R
  | _, _ => false
/-- Does nobody refer to these roots? -/
def okE (TS : List Nat) (env : Env) : Bool := TS.isEmpty || env.all (AV.free TS)
/-- The operands of an operation. -/
def usesOf : Op → List Operand
  | .move x | .assign x | .box _ x | .nilCheck x | .load _ x | .fieldAddr _ x _ | .field _ x _ | .unOp _ _ x | .convert _ _ x | .extract x _ => [x]
  | .pick c a b => [c, a, b]
  | .build _ ps => ps.toList.map (·.2)
  | .buildSlice _ _ ps => ps.toList.map (·.2)
  | .indexAddr _ x i | .index _ x i | .makeSlice _ x i | .store _ x i => [x, i]
  | .binOp _ _ x y _ => [x, y]
  | .slice _ x lo hi _ => x :: (lo.toList ++ hi.toList)
  | .call c => c.args.toList
  | _ => []
def makesRow : Op → Bool
  | .buildSlice _ _ _ => true
  | .makeSlice _ _ _ => true
  | .call c => match c.callee with
    | .builtin .append => true
    | _ => false
  | _ => false
/-- The rows that the region makes and that append alone takes, once. -/
def tsOf (ops : List Oper) : List Nat := ops.filterMap fun o => match o.op with
  | .call c => match c.callee with
    | .builtin .append => match c.args.toList with
      | .tmp s :: _ => if (ops.any fun o => o.dst == some s && makesRow o.op) && Nat.beq ((ops.map fun o => ((usesOf o.op).filter (isTmp s)).length).sum) 1 then some s else none
      | _ => none
    | _ => none
  | _ => none
def okAll (mask : Nat) : Nat → List Foot → Foot → Bool
  | _, [], _ => true
  | i, f :: fs, g => (mask.testBit i || disB f g) && okAll mask (i + 1) fs g

section
variable {R : Type} (T : Tab) (sig : FuncId → Option Sig) (caps : FuncId → List Ty) (orc : Orc)

def evDraw (TS : List Nat) (ops : Array Oper) : List Oper → List Nat → List Foot → Env → (Env → Option R) → Option R
  | [], _, _, env, K => K env
  | o :: rest, ms, fs, env, K =>
    let mask := ancMask ms o.after.toList
    if o.after.toList.all (fun e => !Region.binds .any e || decide (e.on < ms.length)) then
      match o.guard with
      | none => if okAll mask 0 fs (footRun T sig TS o env) then evOp T sig caps orc o env fun env' => if okE TS env' then evDraw TS ops rest (ms ++ [mask]) (fs ++ [footRun T sig TS o env]) env' K else none else none
      | some (j, want) => match (ops[j]?).bind (·.dst) with
        | none => none
        | some dj => match get env dj with
          | .skip => if okAll mask 0 fs (Foot.reads [dj] (footSkip o env)) then skipOp o env fun env' => if okE TS env' then evDraw TS ops rest (ms ++ [mask]) (fs ++ [Foot.reads [dj] (footSkip o env)]) env' K else none else none
          | .con .val [⟨.bool, b, .at_ .ro⟩] => bif b
              then (if want then (if okAll mask 0 fs (Foot.reads [dj] (footRun T sig TS o (put env dj (vBool true)))) then evOp T sig caps orc o (put env dj (vBool true)) fun env' => if okE TS env' then evDraw TS ops rest (ms ++ [mask]) (fs ++ [Foot.reads [dj] (footRun T sig TS o (put env dj (vBool true)))]) env' K else none else none)
                else (if okAll mask 0 fs (Foot.reads [dj] (footSkip o (put env dj (vBool true)))) then skipOp o (put env dj (vBool true)) fun env' => if okE TS env' then evDraw TS ops rest (ms ++ [mask]) (fs ++ [Foot.reads [dj] (footSkip o (put env dj (vBool true)))]) env' K else none else none))
              else (if want then (if okAll mask 0 fs (Foot.reads [dj] (footSkip o (put env dj (vBool false)))) then skipOp o (put env dj (vBool false)) fun env' => if okE TS env' then evDraw TS ops rest (ms ++ [mask]) (fs ++ [Foot.reads [dj] (footSkip o (put env dj (vBool false)))]) env' K else none else none)
                else (if okAll mask 0 fs (Foot.reads [dj] (footRun T sig TS o (put env dj (vBool false)))) then evOp T sig caps orc o (put env dj (vBool false)) fun env' => if okE TS env' then evDraw TS ops rest (ms ++ [mask]) (fs ++ [Foot.reads [dj] (footRun T sig TS o (put env dj (vBool false)))]) env' K else none else none))
          | _ => none
    else none
def drawTS (ops : Array Oper) (env : Env) : List Nat := if okE (tsOf ops.toList) env then tsOf ops.toList else []
def drawReg (ops : Array Oper) (env : Env) (K : Env → Option R) : Option R := evDraw T sig caps orc (drawTS ops env) ops ops.toList [] [] env K
end

section
variable {R : Type} {T : Tab} {sig : FuncId → Option Sig} {caps : FuncId → List Ty} {orc : Orc}

/-- One step of it, seen from outside. -/
theorem evDraw_cons {ops : Array Oper} {o : Oper} {rest : List Oper} {TS : List Nat} {ms : List Nat} {fs : List Foot} {env : Env} {K : Env → Option R} {r : R} (h : evDraw T sig caps orc TS ops (o :: rest) ms fs env K = some r) :
    (∀ e ∈ o.after.toList, Region.binds .any e = true → e.on < ms.length) ∧ okAll (ancMask ms o.after.toList) 0 fs (footG T sig TS ops o env) = true ∧ ∃ e1, evOps T sig caps orc ops [o] env some = some e1 ∧ okE TS e1 = true ∧ evDraw T sig caps orc TS ops rest (ms ++ [ancMask ms o.after.toList]) (fs ++ [footG T sig TS ops o env]) e1 K = some r := by
  simp only [evDraw] at h
  split at h
  · rename_i hb
    refine ⟨fun e he hbe => by have := List.all_eq_true.1 hb e he; rw [hbe] at this; simpa using this, ?_⟩
    have run : ∀ {f : Foot} {X : Env}, (if okAll (ancMask ms o.after.toList) 0 fs f = true then evOp T sig caps orc o X fun env' => if okE TS env' then evDraw T sig caps orc TS ops rest (ms ++ [ancMask ms o.after.toList]) (fs ++ [f]) env' K else none else none) = some r →
        okAll (ancMask ms o.after.toList) 0 fs f = true ∧ ∃ e1, evOp T sig caps orc o X some = some e1 ∧ okE TS e1 = true ∧ evDraw T sig caps orc TS ops rest (ms ++ [ancMask ms o.after.toList]) (fs ++ [f]) e1 K = some r := by
      intro f X h
      split at h
      · rename_i hok
        rw [evOp_bind] at h
        obtain ⟨e1, h1, h2⟩ := Option.bind_eq_some_iff.1 h
        split at h2
        · rename_i hE
          exact ⟨hok, e1, h1, hE, h2⟩
        · simp at h2
      · simp at h
    have skp : ∀ {f : Foot} {X : Env}, (if okAll (ancMask ms o.after.toList) 0 fs f = true then skipOp o X fun env' => if okE TS env' then evDraw T sig caps orc TS ops rest (ms ++ [ancMask ms o.after.toList]) (fs ++ [f]) env' K else none else none) = some r →
        okAll (ancMask ms o.after.toList) 0 fs f = true ∧ ∃ e1, skipOp o X some = some e1 ∧ okE TS e1 = true ∧ evDraw T sig caps orc TS ops rest (ms ++ [ancMask ms o.after.toList]) (fs ++ [f]) e1 K = some r := by
      intro f X h
      split at h
      · rename_i hok
        rw [skipOp_bind] at h
        obtain ⟨e1, h1, h2⟩ := Option.bind_eq_some_iff.1 h
        split at h2
        · rename_i hE
          exact ⟨hok, e1, h1, hE, h2⟩
        · simp at h2
      · simp at h
    unfold footG
    simp only [evOps]
    cases hg : o.guard with
    | none =>
      rw [hg] at h
      simp only at h ⊢
      exact run h
    | some g =>
      obtain ⟨j, want⟩ := g
      rw [hg] at h
      simp only at h ⊢
      cases hj : (ops[j]?).bind (·.dst) with
      | none => rw [hj] at h; simp at h
      | some dj =>
        rw [hj] at h
        simp only at h ⊢
        split at h
        · rename_i hs
          simp only [hs]
          exact skp h
        · rename_i b hs
          have hput : put env dj (vBool b) = env := put_self hs
          simp only [hs]
          cases b with
          | true =>
            simp only [cond_true] at h ⊢
            rw [hput] at h ⊢
            cases want with
            | true => simp only [if_true] at h ⊢; exact run h
            | false => simp only [Bool.false_eq_true, if_false, Bool.true_eq_false] at h ⊢; exact skp h
          | false =>
            simp only [cond_false] at h ⊢
            rw [hput] at h ⊢
            cases want with
            | true => simp only [if_true, Bool.false_eq_true, if_false] at h ⊢; exact skp h
            | false => simp only [Bool.false_eq_true, if_false, if_true] at h ⊢; exact run h
        · simp at h
  · simp at h
end
end Go.FP

/- Regions with open order: every order says the same. Conditions: none. -/
namespace Go.FP
open Go.RowKit
set_option linter.unusedVariables false
set_option linter.unusedSimpArgs false

inductive Anc (ops : Array Oper) : Nat → Nat → Prop
  | edge {j : Nat} {o : Oper} {e : Edge} (h1 : ops[j]? = some o) (h2 : e ∈ o.after) (h3 : Region.binds .any e = true) : Anc ops j e.on
  | trans {j i : Nat} {o : Oper} {e : Edge} (h1 : ops[j]? = some o) (h2 : e ∈ o.after) (h3 : Region.binds .any e = true) (h4 : Anc ops e.on i) : Anc ops j i

theorem ancMask_bit {ms : List Nat} {i : Nat} : ∀ {l : List Edge}, (ancMask ms l).testBit i = true → ∃ e ∈ l, Region.binds .any e = true ∧ (e.on = i ∨ (ms.getD e.on 0).testBit i = true)
  | [], h => by simp [ancMask] at h
  | e :: l, h => by
    unfold ancMask at h
    split at h
    · rename_i hb
      rw [Nat.testBit_or, Nat.testBit_or, Nat.testBit_two_pow] at h
      simp only [Bool.or_eq_true, decide_eq_true_eq] at h
      rcases h with (h | h) | h
      · exact ⟨e, by simp, hb, .inl h⟩
      · exact ⟨e, by simp, hb, .inr h⟩
      · obtain ⟨e', h1, h2⟩ := ancMask_bit h
        exact ⟨e', by simp [h1], h2⟩
    · obtain ⟨e', h1, h2⟩ := ancMask_bit h
      exact ⟨e', by simp [h1], h2⟩

theorem notIn_spec {t : Nat} : ∀ {l : List Nat}, notIn t l = true → t ∉ l
  | [], _ => by simp
  | x :: l, h => by
    simp only [notIn, Bool.and_eq_true, Bool.not_eq_true'] at h
    have h1 : x ≠ t := fun e => by rw [e] at h; simp at h
    simp only [List.mem_cons, not_or]
    exact ⟨fun e => h1 e.symm, notIn_spec h.2⟩
theorem disB_spec {f g : Foot} (h : disB f g = true) : Dis f g := by
  cases f with
  | none => simp [disB] at h
  | some p => cases g with
    | none => simp [disB] at h
    | some q =>
      obtain ⟨W, R⟩ := p
      obtain ⟨W', R'⟩ := q
      simp only [disB, Bool.and_eq_true, List.all_eq_true] at h
      exact ⟨fun w hw => ⟨notIn_spec (h.1 w hw).1, notIn_spec (h.1 w hw).2⟩, fun w hw => notIn_spec (h.2 w hw)⟩
theorem okAll_spec {mask : Nat} {g : Foot} : ∀ {fs : List Foot} {i : Nat}, okAll mask i fs g = true → ∀ k f, fs[k]? = some f → mask.testBit (i + k) = true ∨ Dis f g
  | [], i, _, k, f, hk => by simp at hk
  | f0 :: fs, i, h, k, f, hk => by
    simp only [okAll, Bool.and_eq_true, Bool.or_eq_true] at h
    cases k with
    | zero =>
      simp only [List.getElem?_cons_zero, Option.some.injEq] at hk
      subst hk
      exact h.1.imp (fun h => h) disB_spec
    | succ k =>
      have := okAll_spec h.2 k f (by simpa using hk)
      rwa [show i + 1 + k = i + (k + 1) by omega] at this

section
variable {R : Type} {T : Tab} {sig : FuncId → Option Sig} {caps : FuncId → List Ty} {orc : Orc}

theorem free_nil (v : AV) : v.free [] = true := by simp [AV.free]
theorem okE_all {TS : List Nat} {env : Env} (h : okE TS env = true) : AllJ (Fr TS) env := by
  unfold okE at h
  rw [Bool.or_eq_true] at h
  intro r
  rcases h with h | h
  · rw [List.isEmpty_iff.1 h]; exact free_nil _
  · have key : ∀ {l : Env}, l.all (AV.free TS) = true → ∀ r, (get l r).free TS = true := by
      intro l
      induction l with
      | nil => intro _ r; simp [get, AV.free, AV.refs, AV.ptrs]
      | cons v l ih =>
        intro hl r
        simp only [List.all_cons, Bool.and_eq_true] at hl
        cases r with
        | zero => exact hl.1
        | succ r => exact ih hl.2 r
    exact key h r

theorem evDraw_trace {TS : List Nat} {ops : Array Oper} {K : Env → Option R} {r : R} : ∀ {rest : List Oper} {ms : List Nat} {fs : List Foot} {env : Env} {k : Nat}, evDraw T sig caps orc TS ops rest ms fs env K = some r → AllJ (Fr TS) env → ms.length = k → fs.length = k → (∀ m, rest[m]? = ops[k + m]?) →
    (∀ j, j < k → ∀ i, (ms.getD j 0).testBit i = true → Anc ops j i) →
    ∃ (E : Env) (gs : List Foot), gs.length = rest.length ∧ Trace (Fr TS) (stepI T sig caps orc ops) (footI T sig TS ops) (List.range' k rest.length) env E (fun i => (fs ++ gs).getD i none) ∧ K E = some r ∧
      (∀ j, k ≤ j → j < k + rest.length → (∀ o, ops[j]? = some o → ∀ e ∈ o.after, Region.binds .any e = true → e.on < j) ∧ ∀ i, i < j → Anc ops j i ∨ Dis ((fs ++ gs).getD i none) ((fs ++ gs).getD j none))
  | [], ms, fs, env, k, h, hJ, h1, h2, h3, h4 => by
    exact ⟨env, [], rfl, ⟨hJ, rfl⟩, h, fun j hj hj' => by simp at hj'; omega⟩
  | o :: rest, ms, fs, env, k, h, hJ, h1, h2, h3, h4 => by
    obtain ⟨hback, hok, e1, hs, hE, hr⟩ := evDraw_cons h
    have hok0 : ops[k]? = some o := by have := h3 0; simpa using this.symm
    have hanc : ∀ i, (ancMask ms o.after.toList).testBit i = true → Anc ops k i := by
      intro i hi
      obtain ⟨e, he, hb, hc⟩ := ancMask_bit hi
      have he' : e ∈ o.after := by simpa using he
      rcases hc with rfl | hc
      · exact .edge hok0 he' hb
      · exact .trans hok0 he' hb (h4 e.on (by have := hback e he hb; omega) i hc)
    let g := footG T sig TS ops o env
    obtain ⟨E, gs, k1, k2, k3, k4⟩ := evDraw_trace (k := k + 1) hr (okE_all hE) (by simp [h1]) (by simp [h2]) (fun m => by have := h3 (m + 1); rw [List.getElem?_cons_succ] at this; rw [this]; congr 1; omega) (fun j hj i hi => by
      by_cases hjk : j < k
      · rw [List.getD_eq_getElem?_getD, List.getElem?_append_left (by omega), ← List.getD_eq_getElem?_getD] at hi
        exact h4 j hjk i hi
      · have : j = k := by omega
        subst this
        rw [List.getD_eq_getElem?_getD, List.getElem?_append_right (by omega), h1, Nat.sub_self] at hi
        exact hanc i (by simpa using hi))
    have eapp : fs ++ [g] ++ gs = fs ++ (g :: gs) := by simp
    rw [eapp] at k2 k4
    have hgk : (fs ++ (g :: gs)).getD k none = g := by
      rw [List.getD_eq_getElem?_getD, List.getElem?_append_right (by omega), h2, Nat.sub_self]
      rfl
    refine ⟨E, g :: gs, by simp [k1], ?_, k3, fun j hj hj' => ?_⟩
    · rw [List.length_cons, List.range'_succ]
      refine ⟨hJ, ?_, e1, ?_, k2⟩
      · show footI T sig TS ops k env = _
        unfold footI
        rw [hok0]
        exact hgk.symm
      · unfold stepI
        rw [hok0]
        exact hs
    · by_cases hjk : j = k
      · subst hjk
        refine ⟨fun o' ho' e he hbe => ?_, fun i hi => ?_⟩
        · rw [hok0] at ho'
          simp only [Option.some.injEq] at ho'
          subst ho'
          have := hback e (by simpa using he) hbe
          omega
        · rw [hgk]
          have hfi : fs[i]? = some (fs[i]'(by omega)) := List.getElem?_eq_getElem (by omega)
          have := okAll_spec hok i _ hfi
          rw [Nat.zero_add] at this
          rcases this with h5 | h5
          · exact .inl (hanc i h5)
          · right
            rw [List.getD_eq_getElem?_getD, List.getElem?_append_left (by omega), hfi]
            exact h5
      · exact k4 j (by omega) (by simp only [List.length_cons] at hj'; omega)

theorem draw_ok : DrawHyp (R := R) T sig caps orc (drawReg T sig caps orc) := by
  intro ops env K r h t
  have hTS : AllJ (Fr (drawTS ops env)) env := by
    unfold drawTS
    split
    · rename_i hE; exact okE_all hE
    · exact fun r => free_nil _
  obtain ⟨E, gs, k1, k2, k3, k4⟩ := evDraw_trace (k := 0) h hTS rfl rfl (fun m => by simp) (fun j hj => by omega)
  simp only [List.nil_append, Nat.zero_add, Array.length_toList, Nat.zero_le, true_implies] at k2 k4
  rw [← List.range_eq_range'] at k2
  have hback : ∀ (i : Nat) (o : Oper), ops[i]? = some o → ∀ e ∈ o.after, Region.binds .any e = true → e.on < i := fun i o ho => (k4 i (Array.getElem?_eq_some_iff.1 ho).1).1 o ho
  have hunl : unl ops.size (Array.replicate ops.size false) = List.range ops.size := by
    unfold unl
    rw [List.filter_eq_self]
    intro i hi
    have := List.mem_range.1 hi
    simp [this]
  obtain ⟨g1, g2⟩ := go_spec .any ops hback ops.size t (Array.replicate ops.size false) (by simp) (by rw [hunl]; simp)
  rw [hunl] at g1
  let π := Region.linearise .any ops t
  have hπ : π = Region.linearise.go .any ops ops.size t (Array.replicate ops.size false) [] := rfl
  rw [← hπ] at g1 g2
  have hnd : π.Nodup := g1.symm.nodup List.nodup_range
  have hbefore : ∀ (j i : Nat), Anc ops j i → ∀ (A B : List Nat), π = A ++ j :: B → i ∈ A := by
    intro j i ha
    induction ha with
    | edge h1 h2 h3 =>
      intro A B e
      rcases g2 A _ B e _ h1 _ h2 h3 with h | h
      · simp only [Array.getD_eq_getD_getElem?, Array.getElem?_replicate] at h
        split at h <;> simp at h
      · exact h
    | @trans j0 i0 o0 e0 h1 h2 h3 h4 ih =>
      intro A B e
      rcases g2 A _ B e _ h1 _ h2 h3 with h | h
      · simp only [Array.getD_eq_getD_getElem?, Array.getElem?_replicate] at h
        split at h <;> simp at h
      · obtain ⟨A1, A2, rfl⟩ := List.append_of_mem h
        have := ih A1 (A2 ++ j0 :: B) (by rw [e]; simp [List.append_assoc])
        exact List.mem_append_left _ this
  have hpair : ∀ (A B : List Nat), π = A ++ B → B.Pairwise (fun a x => x < a → Dis (gs.getD x none) (gs.getD a none)) := by
    intro A B
    induction B generalizing A with
    | nil => intro _; exact List.Pairwise.nil
    | cons a B ih =>
      intro e
      refine List.pairwise_cons.2 ⟨fun x hx hxa => ?_, ih (A ++ [a]) (by rw [e]; simp)⟩
      have ham : a ∈ List.range ops.size := g1.subset (by rw [e]; simp)
      rcases (k4 a (List.mem_range.1 ham)).2 x hxa with h | h
      · exfalso
        have hxA := hbefore a x h A B e
        rw [e] at hnd
        exact (List.nodup_append.1 hnd).2.2 x hxA x (by simp [hx]) rfl
      · exact h
  have htr := Trace.reorder (mildI ops) List.pairwise_lt_range g1 (hpair [] π rfl) k2
  exact trace_ev k3 htr

/-- The contract of a function that the evaluator has run. -/
theorem fn_contract {P : Program} (hT : TabOk P T) (hO : OrcOk P sig orc) (hm : P.follows .mixedOrders = true) {fuel : Nat} {ann : Nat → Option (List Nat)} {f : FuncId} {fn : Func} {code : Code} (hf : P.funcs[f]? = some fn) (hb : fn.body = some code) {sg : Sig} {args : List RV} {res : List (Σ t : Ty, t.D)} {KR : List (Σ t : Ty, t.D) → Option R} {rr : R}
    (hmu : sg.muts = false) (hU : ∀ xs, KR xs = some rr → xs = res) (h : evFn T sig caps orc (drawReg T sig caps orc) fuel ann sg fn code args KR = some rr) : FnSpec P f sg.results args res := fn_spec hT hO hm draw_ok hf hb hmu hU h

/-- The contract of a function that writes its first argument's rows. -/
theorem fn_contractM {P : Program} (hT : TabOk P T) (hO : OrcOk P sig orc) (hm : P.follows .mixedOrders = true) {fuel : Nat} {ann : Nat → Option (List Nat)} {f : FuncId} {fn : Func} {code : Code} (hf : P.funcs[f]? = some fn) (hb : fn.body = some code) {sg : Sig} {t : Ty} {x y : t.D} {rest : List RV} {ys : List (Σ t : Ty, t.D)} {KR : List (Σ t : Ty, t.D) → Option R} {rr : R}
    (hmu : sg.muts = true) (hU : ∀ xs, KR xs = some rr → xs = ⟨t, y⟩ :: ys) (h : evFn T sig caps orc (drawReg T sig caps orc) fuel ann sg fn code (.val t x :: rest) KR = some rr) : FnSpecMut P f sg.results t x rest y ys := fn_specM hT hO hm draw_ok hf hb hmu hU h
end
end Go.FP

/- Places in code: the loop at a place, its continuation. Conditions: none (definitions alone). -/
namespace Go.FP

inductive Dir where
  | l | r | t | f | b
  deriving DecidableEq, Inhabited

section
variable {R : Type} (T : Tab) (sig : FuncId → Option Sig) (caps : FuncId → List Ty) (orc : Orc)

/-- What stands at a place of the code: its block's number, the code, what follows. rs: what the loops on the way do at their next round. -/
def codeAt (fuel : Nat) (ann : Nat → Option (List Nat)) : List Dir → Nat → Code → (Exit → Env → Option R) → List (Env → Option R) → Option (Nat × Code × (Exit → Env → Option R))
  | [], m, c, K, _ => some (m, c, K)
  | .l :: p, m, .seq a b, K, rs => codeAt fuel ann p m a (fun e env' => match e with
    | .normal => evCode T sig caps orc (drawReg T sig caps orc) fuel ann m b env' K
    | e => K e env') rs
  | .r :: p, m, .seq _ b, K, rs => codeAt fuel ann p m b K rs
  | .t :: p, m, .cond _ a _, K, rs => codeAt fuel ann p m a K rs
  | .f :: p, m, .cond _ _ b, K, rs => codeAt fuel ann p m b K rs
  | .b :: p, _, .block id c, K, rs => codeAt fuel ann p id c (fun e env' => match e with
    | .exit id' => if id' = id then K .normal env' else K e env'
    | e => K e env') rs
  | .b :: p, m, .loop c, K, rs => match ann m, rs with
    | some keep, rc :: rs => codeAt fuel ann p m c (fun e env' => match e with
      | .normal => rc (dropAll keep (List.range env'.length) env')
      | e => K e env') rs
    | _, _ => none
  | _, _, _, _, _ => none

/-- The rounds of the loop at a place. -/
def loopAt (fuel : Nat) (ann : Nat → Option (List Nat)) (p : List Dir) (c : Code) (K : Exit → Env → Option R) (rs : List (Env → Option R)) (k : Nat) (env : Env) : Option R :=
  match codeAt T sig caps orc fuel ann p 0 c K rs with
  | some (m, .loop c, K) => match ann m with
    | some keep => iter (fun rec env => evCode T sig caps orc (drawReg T sig caps orc) fuel ann m c env fun e env' => match e with
      | .normal => rec (dropAll keep (List.range env'.length) env')
      | e => K e env') k env
    | none => none
  | _ => none
end
end Go.FP

/- Tables of functions with their contracts. Conditions: none. -/
namespace Go.FP
set_option linter.unusedVariables false

/-- What a parameter is: a value, a pointer that is only read, a closure that is known. -/
inductive PS where
  | v (t : Ty)
  | p (t : Ty)
  | c (f : FuncId) (ts : List Ty)
  deriving DecidableEq

def AppC : List Ty → Type → Type
  | [], β => β
  | t :: ts, β => t.D → AppC ts β
@[reducible] def App : List PS → Type → Type
  | [], β => β
  | .v t :: ps, β => t.D → App ps β
  | .p t :: ps, β => t.D → App ps β
  | .c _ ts :: ps, β => AppL ts (App ps β)
where AppL : List Ty → Type → Type
  | [], β => β
  | t :: ts, β => t.D → AppL ts β

def appC {β γ : Type} : (ts : List Ty) → List (Σ t : Ty, t.D) → App.AppL ts β → (β → Option γ) → Option γ
  | [], [], F, k => k F
  | t :: ts, x :: xs, F, k => if h : x.1 = t then appC ts xs (F (h ▸ x.2)) k else none
  | _, _, _, _ => none
def app {β : Type} : (ps : List PS) → List RV → App ps β → Option β
  | [], [], F => some F
  | .v t :: ps, .val t' x :: as, F => if h : t' = t then app ps as (F (h ▸ x)) else none
  | .p t :: ps, .ptr t' x :: as, F => if h : t' = t then app ps as (F (h ▸ x)) else none
  | .c f ts :: ps, .clo f' xs :: as, F => if f' = f then appC ts xs F (fun G => app ps as G) else none
  | _, _, _ => none

def OkC (β : Type) : (ts : List Ty) → App.AppL ts β → (List (Σ t : Ty, t.D) → β → Prop) → Prop
  | [], F, Q => Q [] F
  | t :: ts, F, Q => ∀ x : t.D, OkC β ts (F x) (fun xs G => Q (⟨t, x⟩ :: xs) G)
/-- Whatever the arguments: Q of them and of what comes out. -/
def OkP (β : Type) : (ps : List PS) → App ps β → (List RV → β → Prop) → Prop
  | [], F, Q => Q [] F
  | .v t :: ps, F, Q => ∀ x : t.D, OkP β ps (F x) (fun as G => Q (.val t x :: as) G)
  | .p t :: ps, F, Q => ∀ x : t.D, OkP β ps (F x) (fun as G => Q (.ptr t x :: as) G)
  | .c f ts :: ps, F, Q => OkC (App ps β) ts F (fun xs G => OkP β ps G (fun as H => Q (.clo f xs :: as) H))

theorem appC_ok {β γ : Type} : ∀ {ts : List Ty} {xs : List (Σ t : Ty, t.D)} {F : App.AppL ts β} {k : β → Option γ} {g : γ} {Q : List (Σ t : Ty, t.D) → β → Prop}, OkC β ts F Q → appC ts xs F k = some g → ∃ G, Q xs G ∧ k G = some g
  | [], [], F, k, g, Q, h, ha => ⟨F, h, ha⟩
  | t :: ts, ⟨t', x⟩ :: xs, F, k, g, Q, h, ha => by
    simp only [appC] at ha
    split at ha
    · rename_i e
      subst e
      obtain ⟨G, h1, h2⟩ := appC_ok (h x) ha
      exact ⟨G, h1, h2⟩
    · simp at ha
  | [], x :: xs, F, k, g, Q, h, ha => by simp [appC] at ha
  | t :: ts, [], F, k, g, Q, h, ha => by simp [appC] at ha

theorem app_ok {β : Type} : ∀ {ps : List PS} {as : List RV} {F : App ps β} {g : β} {Q : List RV → β → Prop}, OkP β ps F Q → app ps as F = some g → Q as g
  | [], [], F, g, Q, h, ha => by simp only [app, Option.some.injEq] at ha; subst ha; exact h
  | .v t :: ps, .val t' x :: as, F, g, Q, h, ha => by
    simp only [app] at ha
    split at ha
    · rename_i e
      subst e
      exact app_ok (Q := fun as G => Q (.val _ x :: as) G) (h x) ha
    · simp at ha
  | .p t :: ps, .ptr t' x :: as, F, g, Q, h, ha => by
    simp only [app] at ha
    split at ha
    · rename_i e
      subst e
      exact app_ok (Q := fun as G => Q (.ptr _ x :: as) G) (h x) ha
    · simp at ha
  | .c f ts :: ps, .clo f' xs :: as, F, g, Q, h, ha => by
    simp only [app] at ha
    split at ha
    · rename_i e
      subst e
      obtain ⟨G, h1, h2⟩ := appC_ok h ha
      exact app_ok (Q := fun as G => Q (.clo _ xs :: as) G) h1 h2
    · simp at ha
  | [], _ :: _, F, g, Q, h, ha => by simp [app] at ha
  | .v t :: ps, [], F, g, Q, h, ha => by simp [app] at ha
  | .v t :: ps, .ptr _ _ :: _, F, g, Q, h, ha => by simp [app] at ha
  | .v t :: ps, .clo _ _ :: _, F, g, Q, h, ha => by simp [app] at ha
  | .p t :: ps, [], F, g, Q, h, ha => by simp [app] at ha
  | .p t :: ps, .val _ _ :: _, F, g, Q, h, ha => by simp [app] at ha
  | .p t :: ps, .clo _ _ :: _, F, g, Q, h, ha => by simp [app] at ha
  | .c f ts :: ps, [], F, g, Q, h, ha => by simp [app] at ha
  | .c f ts :: ps, .val _ _ :: _, F, g, Q, h, ha => by simp [app] at ha
  | .c f ts :: ps, .ptr _ _ :: _, F, g, Q, h, ha => by simp [app] at ha

/-- What a function does, by its signature. -/
def FnOk (P : Program) (f : FuncId) (sg : Sig) (args : List RV) (res : List (Σ t : Ty, t.D)) : Prop :=
  match sg.muts with
  | false => if sg.own then ∃ t x0, args = [.val t x0] ∧ res = [⟨t, x0⟩] ∧ FnSpecSh P f t x0 else FnSpec P f sg.results args res
  | true => if sg.own then ∃ t x0 rest y, args = .val t x0 :: rest ∧ res = [⟨t, y⟩] ∧ FnSpecOwn P f t x0 rest y else ∃ t x0 rest y ys, args = .val t x0 :: rest ∧ res = ⟨t, y⟩ :: ys ∧ FnSpecMut P f sg.results t x0 rest y ys

/-- A function, its signature, what it computes, and that it does. -/
structure Entry (P : Program) where
  f : FuncId
  sg : Sig
  ps : List PS
  α : Type
  F : App ps (Option α)
  pk : α → List (Σ t : Ty, t.D)
  en : Enterable P f
  ok : OkP (Option α) ps F (fun as q => ∀ x, q = some x → FnOk P f sg as (pk x))

def orcL {P : Program} : List (Entry P) → Orc
  | [], _, _ => none
  | e :: es, f, as => if f = e.f then (match app e.ps as e.F with
    | some q => some ⟨e.α, q, e.pk⟩
    | none => orcL es f as) else orcL es f as
def sigL {P : Program} : List (Entry P) → FuncId → Option Sig
  | [], _ => none
  | e :: es, f => if f = e.f then some e.sg else sigL es f
def agreeL {P : Program} : List (Entry P) → Bool
  | [] => true
  | e :: es => (es.all fun e' => decide (e'.f = e.f → e'.sg = e.sg)) && agreeL es
def capsL : List (FuncId × List Ty) → FuncId → List Ty
  | [], _ => []
  | p :: ps, f => if f = p.1 then p.2 else capsL ps f

theorem orcL_mem {P : Program} : ∀ {es : List (Entry P)} {f : FuncId} {as : List RV} {q : OrcRes}, orcL es f as = some q → ∃ e ∈ es, f = e.f ∧ ∃ g, app e.ps as e.F = some g ∧ q = ⟨e.α, g, e.pk⟩
  | [], f, as, q, h => by simp [orcL] at h
  | e :: es, f, as, q, h => by
    simp only [orcL] at h
    split at h
    · rename_i hf
      split at h
      · rename_i g hg
        simp only [Option.some.injEq] at h
        exact ⟨e, List.mem_cons_self, hf, g, hg, h.symm⟩
      · obtain ⟨e', h1, h2⟩ := orcL_mem h
        exact ⟨e', List.mem_cons_of_mem _ h1, h2⟩
    · obtain ⟨e', h1, h2⟩ := orcL_mem h
      exact ⟨e', List.mem_cons_of_mem _ h1, h2⟩
theorem sigL_mem {P : Program} : ∀ {es : List (Entry P)} {f : FuncId} {sg : Sig}, agreeL es = true → sigL es f = some sg → ∀ e ∈ es, f = e.f → e.sg = sg
  | [], f, sg, _, h, e, he, _ => by simp at he
  | e0 :: es, f, sg, ha, h, e, he, hf => by
    simp only [agreeL, Bool.and_eq_true, List.all_eq_true, decide_eq_true_eq] at ha
    simp only [sigL] at h
    split at h
    · rename_i hf0
      simp only [Option.some.injEq] at h
      subst h
      rcases List.mem_cons.1 he with rfl | he
      · rfl
      · exact ha.1 e he (hf ▸ hf0)
    · rename_i hf0
      rcases List.mem_cons.1 he with rfl | he
      · exact absurd hf hf0
      · exact sigL_mem ha.2 h e he hf
theorem orcL_ok {P : Program} {es : List (Entry P)} (ha : agreeL es = true) : OrcOk P (sigL es) (orcL es) := by
  intro f sg args q x hs hq hx
  obtain ⟨e, he, hf, g, hg, rfl⟩ := orcL_mem hq
  have hsg := sigL_mem ha hs e he hf
  subst hsg
  subst hf
  exact ⟨e.en, app_ok e.ok hg x hx⟩

/-! ### results taken apart -/
def un0 : List (Σ t : Ty, t.D) → Option Unit
  | [] => some ()
  | _ => none
def un1 (t : Ty) : List (Σ t : Ty, t.D) → Option t.D
  | [x] => if h : x.1 = t then some (h ▸ x.2) else none
  | _ => none
def un2 (t u : Ty) : List (Σ t : Ty, t.D) → Option (t.D × u.D)
  | [x, y] => if h : x.1 = t then if k : y.1 = u then some (h ▸ x.2, k ▸ y.2) else none else none
  | _ => none
def un3 (t u v : Ty) : List (Σ t : Ty, t.D) → Option (t.D × u.D × v.D)
  | [x, y, z] => if h : x.1 = t then if k : y.1 = u then if l : z.1 = v then some (h ▸ x.2, k ▸ y.2, l ▸ z.2) else none else none else none
  | _ => none
def un4 (t u v w : Ty) : List (Σ t : Ty, t.D) → Option (t.D × u.D × v.D × w.D)
  | [x, y, z, q] => if h : x.1 = t then if k : y.1 = u then if l : z.1 = v then if m : q.1 = w then some (h ▸ x.2, k ▸ y.2, l ▸ z.2, m ▸ q.2) else none else none else none else none
  | _ => none
def pk4 (t u v w : Ty) : t.D × u.D × v.D × w.D → List (Σ t : Ty, t.D) := fun x => [⟨t, x.1⟩, ⟨u, x.2.1⟩, ⟨v, x.2.2.1⟩, ⟨w, x.2.2.2⟩]
def pk0 : Unit → List (Σ t : Ty, t.D) := fun _ => []
def pk1 (t : Ty) : t.D → List (Σ t : Ty, t.D) := fun x => [⟨t, x⟩]
def pk2 (t u : Ty) : t.D × u.D → List (Σ t : Ty, t.D) := fun x => [⟨t, x.1⟩, ⟨u, x.2⟩]
def pk3 (t u v : Ty) : t.D × u.D × v.D → List (Σ t : Ty, t.D) := fun x => [⟨t, x.1⟩, ⟨u, x.2.1⟩, ⟨v, x.2.2⟩]
theorem un0_pk (r : Unit) : ∀ xs, un0 xs = some r → xs = pk0 r := by
  intro xs h
  unfold un0 at h
  split at h
  · rfl
  · simp at h
theorem un1_pk (t : Ty) (r : t.D) : ∀ xs, un1 t xs = some r → xs = pk1 t r := by
  intro xs h
  unfold un1 at h
  split at h
  · rename_i x
    obtain ⟨u, x⟩ := x
    split at h
    · rename_i e
      subst e
      simp only [Option.some.injEq] at h
      subst h
      rfl
    · simp at h
  · simp at h
theorem un2_pk (t u : Ty) (r : t.D × u.D) : ∀ xs, un2 t u xs = some r → xs = pk2 t u r := by
  intro xs h
  unfold un2 at h
  split at h
  · rename_i x y
    obtain ⟨t', x⟩ := x
    obtain ⟨u', y⟩ := y
    split at h
    · rename_i e
      subst e
      split at h
      · rename_i e
        subst e
        simp only [Option.some.injEq] at h
        subst h
        rfl
      · simp at h
    · simp at h
  · simp at h
theorem un3_pk (t u v : Ty) (r : t.D × u.D × v.D) : ∀ xs, un3 t u v xs = some r → xs = pk3 t u v r := by
  intro xs h
  unfold un3 at h
  split at h
  · rename_i x y z
    obtain ⟨t', x⟩ := x
    obtain ⟨u', y⟩ := y
    obtain ⟨v', z⟩ := z
    split at h
    · rename_i e
      subst e
      split at h
      · rename_i e
        subst e
        split at h
        · rename_i e
          subst e
          simp only [Option.some.injEq] at h
          subst h
          rfl
        · simp at h
      · simp at h
    · simp at h
  · simp at h

theorem un4_pk (t u v w : Ty) (r : t.D × u.D × v.D × w.D) : ∀ xs, un4 t u v w xs = some r → xs = pk4 t u v w r := by
  intro xs h
  unfold un4 at h
  split at h
  · rename_i x y z q
    obtain ⟨t', x⟩ := x
    obtain ⟨u', y⟩ := y
    obtain ⟨v', z⟩ := z
    obtain ⟨w', q⟩ := q
    split at h
    · rename_i e
      subst e
      split at h
      · rename_i e
        subst e
        split at h
        · rename_i e
          subst e
          split at h
          · rename_i e
            subst e
            simp only [Option.some.injEq] at h
            subst h
            rfl
          · simp at h
        · simp at h
      · simp at h
    · simp at h
  · simp at h

/-- The function's own evaluation says what its contract says. -/
theorem entry_ok {P : Program} {T : Tab} {es : List (Entry P)} {caps : FuncId → List Ty} (hT : TabOk P T) (ha : agreeL es = true) (hm : P.follows .mixedOrders = true) {fuel : Nat} {ann : Nat → Option (List Nat)} {f : FuncId} {fn : Func} {code : Code} (hf : P.funcs[f]? = some fn) (hb : fn.body = some code) {sg : Sig} {args : List RV}
    {α : Type} {un : List (Σ t : Ty, t.D) → Option α} {pk : α → List (Σ t : Ty, t.D)} (hmu : sg.muts = false ∧ sg.own = false) (hu : ∀ r xs, un xs = some r → xs = pk r) {q : Option α} (h : evFn T (sigL es) caps (orcL es) (drawReg T (sigL es) caps (orcL es)) fuel ann sg fn code args un = q) :
    ∀ x, q = some x → FnOk P f sg args (pk x) := by
  intro x hx
  subst h
  unfold FnOk
  rw [hmu.1, hmu.2]
  exact fn_contract hT (orcL_ok ha) hm hf hb hmu.1 (fun xs h => hu x xs h) hx
theorem entry_okM {P : Program} {T : Tab} {es : List (Entry P)} {caps : FuncId → List Ty} (hT : TabOk P T) (ha : agreeL es = true) (hm : P.follows .mixedOrders = true) {fuel : Nat} {ann : Nat → Option (List Nat)} {f : FuncId} {fn : Func} {code : Code} (hf : P.funcs[f]? = some fn) (hb : fn.body = some code) {sg : Sig} {t : Ty} {x0 : t.D} {rest : List RV}
    {α : Type} {un : List (Σ t : Ty, t.D) → Option α} {pk : α → List (Σ t : Ty, t.D)} (hmu : sg.muts = true ∧ sg.own = false) (hpk : ∀ r, ∃ y ys, pk r = ⟨t, y⟩ :: ys) (hu : ∀ r xs, un xs = some r → xs = pk r) {q : Option α} (h : evFn T (sigL es) caps (orcL es) (drawReg T (sigL es) caps (orcL es)) fuel ann sg fn code (.val t x0 :: rest) un = q) :
    ∀ x, q = some x → FnOk P f sg (.val t x0 :: rest) (pk x) := by
  intro x hx
  subst h
  unfold FnOk
  rw [hmu.1, hmu.2]
  obtain ⟨y, ys, e⟩ := hpk x
  exact ⟨t, x0, rest, y, ys, rfl, e, fn_contractM hT (orcL_ok ha) hm hf hb hmu.1 (fun xs h => (hu x xs h).trans e) hx⟩
theorem entry_en {P : Program} {f : FuncId} {fn : Func} {code : Code} (hf : P.funcs[f]? = some fn) (hb : fn.body = some code) (hn : (fn.name == "runtime.NumGoroutine") = false) : Enterable P f := ⟨fn, hf, by rw [hb]; rfl, hn⟩
end Go.FP

/- The program's types, checked; short words for environments. Conditions: none. -/
namespace Go.FP
set_option linter.unusedVariables false

theorem TEOk.plain {P : Program} {e : TE} {i : TypeInfo} (h1 : P.info? e.id = some i) (h2 : i.size = e.ty.sz) (h3 : i.bytes = e.bytes) (h4 : i.zero = some (zeroVal e.ty)) (ha : e.ty.isAgg = false)
    (h5 : match e.ty with
      | .int k => P.underlying e.id = some (.int k)
      | .bool => P.underlying e.id = some .bool
      | .str => P.underlying e.id = some .string
      | .slice el _ => P.underlying e.id = some (.slice el)
      | _ => False) : TEOk P e := by
  refine ⟨⟨i, h1, h2, h3, h4⟩, ?_, fun h => by rw [ha] at h; simp at h⟩
  obtain ⟨id, ty, bytes, fields⟩ := e
  cases ty with
  | unit => simp [Ty.isAgg] at ha
  | pair a b => simp [Ty.isAgg] at ha
  | _ => exact h5
def fieldsB : List Field → List (Nat × TypeId) → Bool
  | _, [] => true
  | f :: fs, p :: ps => Nat.beq f.offset p.1 && (Nat.beq f.type p.2 && fieldsB fs ps)
  | [], _ :: _ => false
theorem fieldsB_spec : ∀ {fs : List Field} {ps : List (Nat × TypeId)}, fieldsB fs ps = true → ∀ (i off ft : Nat), ps[i]? = some (off, ft) → ∃ f : Field, fs[i]? = some f ∧ f.offset = off ∧ f.type = ft
  | fs, [], h, i, off, ft, hi => by simp at hi
  | [], p :: ps, h, i, off, ft, hi => by simp [fieldsB] at h
  | f :: fs, p :: ps, h, i, off, ft, hi => by
    simp only [fieldsB, Bool.and_eq_true] at h
    obtain ⟨h1, h2, h3⟩ := h
    cases i with
    | zero =>
      simp only [List.getElem?_cons_zero, Option.some.injEq] at hi
      subst hi
      exact ⟨f, rfl, Nat.eq_of_beq_eq_true h1, Nat.eq_of_beq_eq_true h2⟩
    | succ i => simpa using fieldsB_spec h3 i off ft (by simpa using hi)
theorem TEOk.struct {P : Program} {e : TE} {i : TypeInfo} {fs : Array Field} {pl : List (Nat × Nat)} (h1 : P.info? e.id = some i) (h2 : i.size = e.ty.sz) (h3 : i.bytes = e.bytes) (h4 : i.zero = some (zeroVal e.ty)) (hu : P.underlying e.id = some (.struct fs)) (hf : fieldsB fs.toList e.fields = true)
    (hp : fs.toList.mapM (fun f => (P.info? f.type).map fun i => (f.offset, i.size)) = some pl) (ha : e.ty.isAgg = true) : TEOk P e := by
  refine ⟨⟨i, h1, h2, h3, h4⟩, ?_, fun _ => ⟨fs, pl, hu, hp⟩⟩
  obtain ⟨id, ty, bytes, fields⟩ := e
  simp only at ha hf hu ⊢
  cases ty with
  | unit => exact ⟨fs, hu, fun i off ft h => by obtain ⟨f, h1, h2⟩ := fieldsB_spec hf i off ft h; exact ⟨f, by simpa using h1, h2⟩⟩
  | pair a b => exact ⟨fs, hu, fun i off ft h => by obtain ⟨f, h1, h2⟩ := fieldsB_spec hf i off ft h; exact ⟨f, by simpa using h1, h2⟩⟩
  | _ => simp [Ty.isAgg] at ha
theorem tab_nil {P : Program} : TabOk P [] := fun e he => by simp at he
theorem tab_cons {P : Program} {e : TE} {T : Tab} (h : TEOk P e) (hT : TabOk P T) : TabOk P (e :: T) := fun e' he => by
  rcases List.mem_cons.1 he with rfl | he
  · exact h
  · exact hT e' he

/-- Places that hold nothing, in front. -/
def un : Nat → Env → Env
  | 0, l => l
  | n + 1, l => .undef :: un n l
def lf (t : Ty) (x : t.D) (lv : Lvl) : Leaf := ⟨t, x, .at_ lv⟩
def lb (t : Ty) (x : t.D) (r j : Nat) : Leaf := ⟨t, x, .bor r j []⟩
end Go.FP

/- What comes in as data reads as native data. Conditions: none. -/
namespace Go.FP
open Go.RowKit
set_option linter.unusedVariables false

/-- What every input of a type is. -/
def Wf : (t : Ty) → t.D → Prop
  | .int k, x => k.min ≤ x ∧ x ≤ k.max
  | .bool, _ => True
  | .str, x => x.size ≤ maxLen
  | .slice _ t, x => x.length ≤ maxLen ∧ ∀ y ∈ x, Wf t y
  | .unit, _ => True
  | .pair a b, x => Wf a x.1 ∧ Wf b x.2

def fsB (g : Ty → TypeId → Bool) : Ty → Nat → List (Nat × TypeId) → Bool
  | τ, off, [] => decide (τ = .unit)
  | τ, off, p :: ps => Nat.beq p.1 off && (match ps with
    | [] => g τ p.2 || (match τ with | .pair a .unit => g a p.2 | _ => false)
    | _ :: _ => (match τ with | .pair a b => g a p.2 && fsB g b (off + a.sz) ps | _ => false))
/-- The table tells a type to its ground. f: the depth. -/
def tyB (T : Tab) : Nat → Ty → TypeId → Bool
  | 0, _, _ => false
  | f + 1, τ, tid => match T.te tid with
    | none => false
    | some e => decide (e.ty = τ) && (match τ with
      | .slice el t => tyB T f t el && decide (0 < t.sz)
      | .pair a b => fsB (tyB T f) (.pair a b) 0 e.fields
      | .unit => fsB (tyB T f) .unit 0 e.fields
      | _ => true)

theorem tyB_te {T : Tab} {f : Nat} {τ : Ty} {tid : TypeId} (h : tyB T f τ tid = true) : ∃ e, T.te tid = some e ∧ e.ty = τ := by
  cases f with
  | zero => simp [tyB] at h
  | succ f =>
    simp only [tyB] at h
    split at h
    · simp at h
    · rename_i e he
      simp only [Bool.and_eq_true, decide_eq_true_eq] at h
      exact ⟨e, he, h.1⟩
theorem tyB_size {P : Program} {T : Tab} (hT : TabOk P T) {f : Nat} {τ : Ty} {tid : TypeId} (h : tyB T f τ tid = true) : P.cellsOf tid = τ.sz := by
  obtain ⟨e, he, rfl⟩ := tyB_te h
  obtain ⟨hm, rfl⟩ := Tab.te_mem he
  obtain ⟨i, h1, h2, _⟩ := (hT e hm).info
  simp [Program.cellsOf, h1, h2]

section
variable {H : Type} {enc : TypeId × Value → H} {P : Program} {w : World} {spare : Nat → Bool} {held : Bool} {T : Tab}

theorem fields_rep (hT : TabOk P T) {fuel : Nat} (ih : ∀ (f : Nat) (τ : Ty) (tid : TypeId) (cs : List Value) (d : DataW H × List MemPlace), tyB T f τ tid = true → DataW.trod enc P w 0 spare held fuel tid cs = some d → ∃ x, Rep (fun b => b < w.heap.size) w τ .ro cs x [] ∧ Wf τ x) {cs : List Value} {f : Nat} :
    ∀ (ps : List (Nat × TypeId)) (τ : Ty) (off : Nat), fsB (tyB T f) τ off ps = true → off + τ.sz ≤ cs.length → (∀ p ∈ ps, ∃ d, DataW.trod enc P w 0 spare held fuel p.2 ((cs.drop p.1).take (P.cellsOf p.2)) = some d) →
      ∃ x, Rep (fun b => b < w.heap.size) w τ .ro ((cs.drop off).take τ.sz) x [] ∧ Wf τ x
  | [], τ, off, h, hl, hp => by
    simp only [fsB, decide_eq_true_eq] at h
    subst h
    exact ⟨(), ⟨by simp [Ty.sz], rfl⟩, trivial⟩
  | p :: ps, τ, off, h, hl, hp => by
    unfold fsB at h
    simp only [Bool.and_eq_true] at h
    obtain ⟨h1, h2⟩ := h
    have h1 := Nat.eq_of_beq_eq_true h1
    obtain ⟨d, hd⟩ := hp p (by simp)
    rw [h1] at hd
    cases ps with
    | nil =>
      simp only [Bool.or_eq_true] at h2
      rcases h2 with h2 | h2
      · rw [tyB_size hT h2] at hd
        exact ih _ _ _ _ _ h2 hd
      · split at h2
        · rename_i a
          rw [tyB_size hT h2] at hd
          obtain ⟨x, k1, k2⟩ := ih _ _ _ _ _ h2 hd
          exact ⟨(x, ()), ⟨_, [], [], [], by simp [Ty.sz], rfl, k1, rfl, rfl⟩, k2, trivial⟩
        · simp at h2
    | cons q ps =>
      simp only at h2
      split at h2
      · rename_i a b
        simp only [Bool.and_eq_true] at h2
        obtain ⟨h2, h3⟩ := h2
        rw [tyB_size hT h2] at hd
        obtain ⟨x, k1, k2⟩ := ih _ _ _ _ _ h2 hd
        simp only [Ty.sz] at hl
        obtain ⟨y, m1, m2⟩ := fields_rep hT ih (q :: ps) b (off + a.sz) h3 (by omega) (fun p hp' => hp p (List.mem_cons_of_mem _ hp'))
        refine ⟨(x, y), ⟨_, _, [], [], ?_, rfl, k1, m1⟩, k2, m2⟩
        simp only [Ty.sz]
        rw [List.take_add, List.drop_drop]
      · simp at h2

theorem mapM_all {α β : Type} {g : α → Option β} : ∀ {l : List α} {r : List β}, l.mapM g = some r → ∀ a ∈ l, ∃ b, g a = some b
  | [], r, h, a, ha => by simp at ha
  | a0 :: l, r, h, a, ha => by
    simp only [List.mapM_cons, Option.pure_def, Option.bind_eq_bind, Option.bind_eq_some_iff] at h
    obtain ⟨b, hb, r', hr', _⟩ := h
    rcases List.mem_cons.1 ha with rfl | ha
    · exact ⟨b, hb⟩
    · exact mapM_all hr' a ha

theorem elems_rep {e : TypeId} {t : Ty} {a : Addr} (n0 : Nat) (hel : ∀ i, i < n0 → ∃ cs x, cs.length = t.sz ∧ (∀ j, j < t.sz → w.cell? ((a.add (i * t.sz)).add j) = cs[j]?) ∧ Rep (fun b => b < w.heap.size) w t .ro cs x [] ∧ Wf t x) (hz : 0 < t.sz) :
    ∀ n, n ≤ n0 → ∃ (xs : List Value) (x : List t.D), x.length = n ∧ El (Rep (fun b => b < w.heap.size) w t .ro) t.sz xs x [] ∧ (∀ y ∈ x, Wf t y) ∧ ∀ j u, xs[j]? = some u → a.block < w.heap.size ∧ w.cell? (a.add j) = some u
  | 0, _ => ⟨[], [], rfl, ⟨rfl, rfl⟩, by simp, by simp⟩
  | n + 1, hn => by
    obtain ⟨xs, x, h1, h2, h3, h4⟩ := elems_rep (e := e) n0 hel hz n (by omega)
    obtain ⟨cs, y, k1, k2, k3, k4⟩ := hel n (by omega)
    refine ⟨xs ++ cs, x ++ [y], by simp [h1], ?_, ?_, ?_⟩
    · exact El.append h2 ⟨cs, [], [], [], by simp, k1, rfl, k3, rfl, rfl⟩
    · intro z hz
      rcases List.mem_append.1 hz with hz | hz
      · exact h3 z hz
      · rw [List.mem_singleton.1 hz]; exact k4
    · intro j u hu
      have hxl : xs.length = n * t.sz := by rw [h2.len, h1]
      by_cases hj : j < xs.length
      · rw [List.getElem?_append_left hj] at hu
        exact h4 j u hu
      · rw [List.getElem?_append_right (by omega)] at hu
        have hjl := (List.getElem?_eq_some_iff.1 hu).1
        have := k2 (j - xs.length) (by omega)
        rw [hu] at this
        have hadd : (a.add (n * t.sz)).add (j - xs.length) = a.add j := by
          rw [Addr.add_add, ← hxl]
          congr 1
          omega
        rw [hadd] at this
        have hlt := World.block_lt_of_cell? w _ this
        rw [Addr.add_block] at hlt
        exact ⟨hlt, this⟩

theorem trod_rep (hT : TabOk P T) : ∀ (fuel f : Nat) (τ : Ty) (tid : TypeId) (cs : List Value) (d : DataW H × List MemPlace), tyB T f τ tid = true → DataW.trod enc P w 0 spare held fuel tid cs = some d → ∃ x, Rep (fun b => b < w.heap.size) w τ .ro cs x [] ∧ Wf τ x
  | 0, f, τ, tid, cs, d, hb, h => by simp [DataW.trod] at h
  | fuel + 1, 0, τ, tid, cs, d, hb, h => by simp [tyB] at hb
  | fuel + 1, f + 1, τ, tid, cs, d, hb, h => by
    have hsz := tyB_size hT hb
    simp only [tyB] at hb
    split at hb
    · simp at hb
    rename_i e he
    simp only [Bool.and_eq_true, decide_eq_true_eq] at hb
    obtain ⟨hty, hb⟩ := hb
    obtain ⟨hm, hid⟩ := Tab.te_mem he
    have hd := (hT e hm).desc
    rw [hid] at hd
    rw [hty] at hd
    unfold DataW.trod at h
    have hstruct : ∀ fs : Array Field, P.underlying tid = some (.struct fs) → (∀ (i off ft : Nat), e.fields[i]? = some (off, ft) → ∃ f : Field, fs[i]? = some f ∧ f.offset = off ∧ f.type = ft) → fsB (tyB T f) τ 0 e.fields = true → ∃ x, Rep (fun b => b < w.heap.size) w τ .ro cs x [] ∧ Wf τ x := by
      intro fs hu hf hfs
      rw [hu] at h
      simp only at h
      split at h
      · rename_i hl
        rw [hsz] at hl
        obtain ⟨r, hr, _⟩ := Option.map_eq_some_iff.1 h
        have hall := mapM_all hr
        obtain ⟨x, k1, k2⟩ := fields_rep hT (trod_rep hT fuel) (cs := cs) e.fields τ 0 hfs (by omega) (fun p hp => by
          obtain ⟨i, hi⟩ := List.getElem?_of_mem hp
          obtain ⟨fd, g1, g2, g3⟩ := hf i p.1 p.2 hi
          obtain ⟨d, hd⟩ := hall fd (by rw [← Array.getElem?_toList] at g1; exact List.mem_of_getElem? g1)
          rw [g2, g3] at hd
          exact ⟨d, hd⟩)
        rw [List.drop_zero, List.take_of_length_le (by omega)] at k1
        exact ⟨x, k1, k2⟩
      · simp at h
    cases τ with
    | int k =>
      simp only at hd
      rw [hd] at h
      rcases cs with _ | ⟨v, _ | ⟨v2, tl⟩⟩
      · simp at h
      · cases v <;> simp at h
        obtain ⟨⟨rfl, h2⟩, _⟩ := h
        simp only [Lit.wf, Bool.and_eq_true, decide_eq_true_eq] at h2
        exact ⟨_, ⟨rfl, rfl⟩, h2⟩
      · simp at h
    | bool =>
      simp only at hd
      rw [hd] at h
      rcases cs with _ | ⟨v, _ | ⟨v2, tl⟩⟩
      · simp at h
      · cases v <;> simp at h
        exact ⟨_, ⟨rfl, rfl⟩, trivial⟩
      · simp at h
    | str =>
      simp only at hd
      rw [hd] at h
      rcases cs with _ | ⟨v, _ | ⟨v2, tl⟩⟩
      · simp at h
      · cases v <;> simp at h
        exact ⟨_, ⟨rfl, rfl⟩, h.1⟩
      · simp at h
    | slice el t =>
      simp only [Bool.and_eq_true, decide_eq_true_eq] at hb
      obtain ⟨hb, hpos⟩ := hb
      simp only at hd
      rw [hd] at h
      rcases cs with _ | ⟨v, _ | ⟨v2, tl⟩⟩
      · simp at h
      · cases v with
        | slice A len cap =>
          cases A with
          | none =>
            have : len = 0 ∧ cap = 0 := by
              split at h <;> simp_all
            obtain ⟨rfl, rfl⟩ := this
            exact ⟨[], ⟨.slice none 0 0, [], [], [], rfl, rfl, ⟨rfl, rfl⟩, rfl, none, 0, rfl, Nat.le_refl _, fun _ => rfl, by simp⟩, by simp, by simp⟩
          | some a =>
            simp only at h
            split at h
            case isFalse => simp at h
            rename_i hc
            obtain ⟨_, h1, h2⟩ := hc
            obtain ⟨elems, h3, _⟩ := Option.bind_eq_some_iff.1 h
            have hsz2 := tyB_size hT hb
            have hall := mapM_all h3
            obtain ⟨xs, x, k1, k2, k3, k4⟩ := elems_rep (w := w) (e := el) (t := t) (a := a) len (fun i hi => by
              obtain ⟨d, hd⟩ := hall i (List.mem_range.2 hi)
              obtain ⟨ci, hci, hd⟩ := Option.bind_eq_some_iff.1 hd
              obtain ⟨_, g1, g2⟩ := World.cells?_some hci
              rw [hsz2] at g1 g2
              obtain ⟨x, m1, m2⟩ := trod_rep hT fuel f t el ci d hb hd
              exact ⟨ci, x, g1, g2, m1, m2⟩) hpos len (Nat.le_refl _)
            refine ⟨x, ⟨.slice (some a) len cap, xs, [], [], rfl, rfl, k2, rfl, some a, cap, by rw [k1], by rw [k1]; exact h1, fun h => by simp at h, fun j u hu => ?_⟩, by show x.length ≤ maxLen; omega, k3⟩
            obtain ⟨m1, m2⟩ := k4 j u hu
            exact ⟨a, rfl, m1, m2⟩
        | _ => simp at h
      · simp at h
    | unit =>
      simp only at hd hb
      obtain ⟨fs, hu, hf⟩ := hd
      exact hstruct fs hu hf hb
    | pair a b =>
      simp only at hd hb
      obtain ⟨fs, hu, hf⟩ := hd
      exact hstruct fs hu hf hb
end
end Go.FP

/- A law's row: what comes in, and what the law says. Conditions: none. -/
namespace Go.FP
open Go.RowKit Go.WideShapes
set_option linter.unusedVariables false

theorem open_val {H : Type} {enc : TypeId × Value → H} {P : Program} {w : World} {spare : Nat → Bool} {held : Bool} {T : Tab} (hT : TabOk P T) {r : Go.Reach} {b0 f : Nat} {τ : Ty} {tid : TypeId} (hb : tyB T f τ tid = true) {v : Value} (hval : Value.okWide P w r b0 tid v) {d : DataW H} {ps : List MemPlace} (hd : DataW.Trod enc P w 0 spare held tid v d ps) :
    ∃ x, RVRel (fun b => b < w.heap.size) w (.val τ x) v ∧ Wf τ x := by
  obtain ⟨fuel, hf⟩ := hd
  obtain ⟨x, h1, h2⟩ := trod_rep hT _ _ _ _ _ _ hb hf
  refine ⟨x, ⟨v.cells.toList, ?_, h1⟩, h2⟩
  obtain ⟨e, he, rfl⟩ := tyB_te hb
  obtain ⟨hm, rfl⟩ := Tab.te_mem he
  have hd := (hT e hm).desc
  cases hτ : e.ty with
  | int k => rw [hτ] at hd; obtain ⟨n, rfl⟩ := okWide_int hd hval; rfl
  | bool => rw [hτ] at hd; obtain ⟨n, rfl⟩ := okWide_bool hd hval; rfl
  | str => rw [hτ] at hd; obtain ⟨n, rfl⟩ := okWide_string hd hval; rfl
  | slice el t => rw [hτ] at hd; obtain ⟨a, l, c, rfl⟩ := okWide_slice hd hval; rfl
  | unit =>
    rw [hτ] at hd
    obtain ⟨fs, hu, _⟩ := hd
    simp only [Value.okWide, hu] at hval
    obtain ⟨cs, rfl, _⟩ := hval
    simp [mkV, Ty.isAgg, Value.cells]
  | pair a b =>
    rw [hτ] at hd
    obtain ⟨fs, hu, _⟩ := hd
    simp only [Value.okWide, hu] at hval
    obtain ⟨cs, rfl, _⟩ := hval
    simp [mkV, Ty.isAgg, Value.cells]

/-- A law's call: true, and nothing that was there has turned. -/
theorem law_call {P : Program} {f : FuncId} {fr : Lvl} {args : List RV} {vals : List Value} {w : World} (hs : FnSpec P f [(.bool, fr)] args [⟨.bool, true⟩]) (hv : RVRels (fun b => b < w.heap.size) w args vals) :
    Calls P f vals.toArray w fun e w' => e = .returned (.bool true) ∧ Below w.heap.size w w' := by
  refine (hs _ w vals hv).mono fun e w' ⟨chs, bs, he, hb, hr, _⟩ => ⟨?_, hb⟩
  obtain ⟨x, xs', ch, chs', b, b', e1, e2, e3, h1, h2⟩ := hr
  simp only [List.cons.injEq, Sigma.mk.injEq, heq_eq_eq, true_and] at e1
  obtain ⟨rfl, rfl⟩ := e1
  obtain ⟨_, rfl, rfl⟩ := h2
  have hch : ch = [.bool true] := by
    cases fr <;> exact h1.1
  rw [he, e2, hch]
  rfl
end Go.FP
