/- How Go values lie in memory, and an evaluator of code with its soundness (part 4 of 7). Conditions: those that stand in each theorem; nothing is assumed of any program. -/
import Derived.Test.YtonpdomdcgfpfaaGreatFpC

set_option linter.unusedVariables false
set_option linter.unusedSimpArgs false
set_option linter.unnecessarySimpa false

namespace Go.FP
open Go.RowKit
abbrev Places := List (Nat × Nat × Leaf)
theorem Y1t (L : Places) (r : Nat) : ∀ (k : Nat) (ls : List Leaf) (l : Nat), (renewLs L r k ls)[l]? = (ls[l]?).map fun lf => (lookM L r (k + l)).getD lf
 | k, [], l => by simp [renewLs]
 | k, u :: ls, 0 => by simp [renewLs]
 | k, u :: ls, l + 1 => by simp [renewLs, Y1t L r (k + 1) ls l, Nat.add_assoc, Nat.add_comm 1 l]
theorem Y2w (L : Places) (r : Nat) : ∀ (k : Nat) (ls : List Leaf), (renewLs L r k ls).length = ls.length
 | k, [] => rfl
 | k, u :: ls => by simp [renewLs, Y2w L r (k + 1) ls]
theorem Y57 (L : Places) : ∀ (k : Nat) (env : Env) (r : Nat), get (renewEnv L k env) r = (get env r).renew L (k + r)
 | k, [], r => by simp [renewEnv, get, AV.renew]
 | k, u :: env, 0 => by simp [renewEnv, get]
 | k, u :: env, r + 1 => by simp [renewEnv, get, Y57 L (k + 1) env r, Nat.add_assoc, Nat.add_comm 1 r]
theorem Y3y (L : Places) : ∀ (k : Nat) (env : Env), (renewEnv L k env).length = env.length
 | k, [] => rfl
 | k, u :: env => by simp [renewEnv, Y3y L (k + 1) env]
theorem Y1y (L : Places) (env : Env) : (syncs L env).length = env.length := by unfold syncs; rw [Y3y, Y8]
theorem Ybx (L : Places) (env : Env) (r : Nat) : get (syncs L env) r = ((get env r).chg (syncsG L)).renew L r := by unfold syncs; rw [Y57, Yw, Nat.zero_add]
theorem Yb2 {L : Places} {r : Nat} (h : ∀ j, lookM L r j = none) (v : AV) : v.renew L r = v := by
 cases v with
 | con k ls =>
  simp only [AV.renew, AV.con.injEq, true_and]
  apply List.ext_getElem?
  intro l
  rw [Y1t, h]
  cases ls[l]? <;> rfl
 | _ => rfl
theorem Ya3 (L : Places) : Fewer (syncsG L) := fun r j p l => by
 simp only [syncsG]
 split
 ·cases p with
  | nil => exact .inr rfl
  | cons a p => exact .inl rfl
 ·exact .inr rfl
theorem Yb3 {L : Places} (hL : ∀ q j n, lookM L q j = some n -> ∃ lv, n.m = .at_ lv) (r : Nat) (v : AV) : (∀ z ∈ (v.renew L r).refs, z ∈ v.refs) /\ (∀ z ∈ (v.renew L r).ptrs, z ∈ v.ptrs) := by
 cases v with
 | con k ls =>
  refine ⟨fun z hz => ?_, fun z hz => hz⟩
  simp only [AV.renew, AV.refs, List.mem_flatMap] at hz ⊢
  obtain ⟨lf, hlf, hz⟩ := hz
  obtain ⟨l, hl⟩ := List.getElem?_of_mem hlf
  rw [Y1t] at hl
  obtain ⟨lf0, hl0, rfl⟩ := Option.map_eq_some_iff.1 hl
  cases hk : lookM L r (0 + l) with
  | none => rw [hk] at hz; exact ⟨lf0, List.mem_of_getElem? hl0, hz⟩
  | some n =>
   rw [hk] at hz
   obtain ⟨lv, hm⟩ := hL _ _ _ hk
   obtain ⟨t, x, m⟩ := n
   simp only at hm
   subst hm
   simp [Leaf.refs] at hz
 | _ => exact ⟨fun z hz => hz, fun z hz => hz⟩
theorem RP.syncsAt {c : Cx} {env : Env} {tmps : Array Value} {w : World} {vs : Nat -> Value} (hlen : env.length = tmps.size) {cs : Nat -> List Value} {bs : Nat -> Nat -> List Nat} (hrel : Rel c (SS env noP tmps vs w cs bs)) (hno : ∀ r, (∀ q ∈ (ovl env noP r).refs, q.1 < env.length) /\ (∀ q ∈ (ovl env noP r).ptrs, q < env.length))
  {L : Places} (hL : ∀ q j n, lookM L q j = some n -> ∃ x lv, (get env q).leaf? j = some ⟨n.t, x, .at_ lv⟩ /\ n.m = .at_ lv /\ lv.deep = true) {w' : World} (hbel : Below c.base w w')
  (hheap : ∀ b, b < w.heap.size -> (∀ q j n, lookM L q j = some n -> b ∉ bs q (j + 1)) -> w'.heap[b]? = w.heap[b]?)
  (bd : Nat -> Nat -> List Nat)
  (hbd1 : ∀ q j n, lookM L q j = some n -> ∀ b ∈ bd q j, b < w'.heap.size /\ (w.heap.size <= b \/ ∃ q' j' n', lookM L q' j' = some n' /\ b ∈ bs q' (j' + 1)))
  (hbd2 : ∀ q j n, lookM L q j = some n -> (bd q j).Nodup)
  (hbd3 : ∀ q j n q' j' n' b, lookM L q j = some n -> lookM L q' j' = some n' -> b ∈ bd q j -> b ∈ bd q' j' -> q = q' /\ j = j')
  (hrep : ∀ q j n u, lookM L q j = some n -> (cs q)[j]? = some u -> Rep (fun _ => False) w' n.t .dp [u] n.x (bd q j)) :
  RP c (syncs L env) tmps w' noP vs := by
 let g : Chg := syncsG L
 let s : St := SS env noP tmps vs w cs bs
 let bs' : Nat -> Nat -> List Nat := fun p l => match l with
  | 0 => bs p 0
  | j + 1 => match lookM L p j with | some _ => bd p j | none => bs p (j + 1)
 let E : Nat -> AV := fun p => ((ovl env noP p).chg g).renew L p
 let s' : St := ⟨E, ovlT tmps vs, w', cs, bs'⟩
 let D : Nat -> Prop := fun p => ∃ j n, lookM L p j = some n
 have eb0 : ∀ p, s'.bs p 0 = bs p 0 := fun p => rfl
 have ebS : ∀ {p j n}, lookM L p j = some n -> s'.bs p (j + 1) = bd p j := fun {p j n} h => by show (match lookM L p j with | some _ => bd p j | none => bs p (j + 1)) = _; rw [h]
 have ebN : ∀ {p j}, lookM L p j = none -> s'.bs p (j + 1) = bs p (j + 1) := fun {p j} h => by show (match lookM L p j with | some _ => bd p j | none => bs p (j + 1)) = _; rw [h]
 have part : ∀ p l b, b ∈ s'.bs p l -> (b ∈ bs p l /\ ∀ j, l = j + 1 -> lookM L p j = none) \/ ∃ j n, l = j + 1 /\ lookM L p j = some n /\ b ∈ bd p j := by
  intro p l b hb
  cases l with
  | zero => exact .inl ⟨hb, fun j h => by omega⟩
  | succ j =>
   cases hk : lookM L p j with
   | none => rw [ebN hk] at hb; exact .inl ⟨hb, fun j' h => by rw [<- Nat.succ.inj h]; exact hk⟩
   | some n => rw [ebS hk] at hb; exact .inr ⟨j, n, rfl, hk, hb⟩
 have hsame : ∀ p, ¬ D p -> s'.env p = (s.env p).chg g /\ s'.tm p = s.tm p /\ s'.cs p = s.cs p /\ s'.bs p = s.bs p := fun p hp => by
  have hn : ∀ j, lookM L p j = none := fun j => by
   cases hk : lookM L p j with
   | none => rfl
   | some n => exact absurd ⟨j, n, hk⟩ hp
  refine ⟨Yb2 hn _, rfl, rfl, ?_⟩
  funext l
  cases l with
  | zero => rfl
  | succ j => exact ebN (hn j)
 have hne : ∀ (p i b : Nat), lookM L p i = none -> b ∈ bs p (i + 1) -> w'.heap[b]? = w.heap[b]? := fun p i b hk hb =>
  hheap b (hrel.own _ _ _ hb).2 (fun q j n hq hb2 => by
   obtain ⟨rfl, h2⟩ := hrel.disj _ _ _ _ _ hb hb2
   obtain rfl : i = j := by omega
   rw [hk] at hq; simp at hq)
 have hne0 : ∀ (p b : Nat), b ∈ bs p 0 -> w'.heap[b]? = w.heap[b]? := fun p b hb =>
  hheap b (hrel.own _ _ _ hb).2 (fun q j n hq hb2 => by have := (hrel.disj _ _ _ _ _ hb hb2).2; omega)
 -- a root that is changed
 have hcon : ∀ p j n, lookM L p j = some n -> ∃ k ls0, get env p = .con k ls0 /\ p < env.length := fun p j n hk => by
  obtain ⟨x, lv, h1, _, _⟩ := hL p j n hk
  cases hv : get env p with
  | con k ls => exact ⟨k, ls, rfl, Yx hv⟩
  | _ => rw [hv] at h1; simp [AV.leaf?] at h1
 have eEcon : ∀ {p k ls0}, ovl env noP p = .con k ls0 -> s'.env p = .con k (renewLs L p 0 (chgs g ls0)) := fun {p k ls0} h => by
  show ((ovl env noP p).chg g).renew L p = _
  rw [h]; rfl
 have hleafN : ∀ {p i lf}, lookM L p i = none -> (s.env p).leaf? i = some lf -> lf.m.own = true -> (s'.env p).leaf? i = some lf := fun {p i lf} hk h1 h2 => by
  have h1 : (ovl env noP p).leaf? i = some lf := h1
  cases hv : ovl env noP p with
  | con k ls =>
   rw [hv] at h1
   rw [eEcon hv]
   have h1 : leafAt ls i = some lf := h1
   show leafAt _ i = _
   rw [Y1, Y1t, Nat.zero_add, hk, <- Y1, Yd, h1]
   simp [Y6x h2]
  | _ => rw [hv] at h1; simp [AV.leaf?] at h1
 have hstay : ∀ p i, lookM L p i = none -> SamePl s s' p i := fun p i hk =>
  ⟨fun lf u ⟨o1, o2, o3⟩ => ⟨hleafN hk o1 o2, o2, o3⟩, ebN hk, fun b hb => hne p i b hk hb⟩
 have hown : ∀ p i n u, lookM L p i = some n -> (cs p)[i]? = some u -> OwnPlace s' p i n u := fun p i n u hk hu => by
  obtain ⟨x, lv, h1, h2, h3⟩ := hL p i n hk
  obtain ⟨k, ls0, hv, hp⟩ := hcon p i n hk
  refine ⟨?_, by rw [h2]; exact Y8z h3, hu⟩
  rw [eEcon (by rw [Y7 hp, hv])]
  rw [hv] at h1
  have h1 : leafAt ls0 i = some _ := h1
  show leafAt _ i = _
  rw [Y1, Y1t, Nat.zero_add, hk, <- Y1, Yd, h1]
  rfl
 have hptr : ∀ p, SamePtr s s' p := fun p => ⟨rfl, fun e ls he => ⟨e, _, eEcon he⟩⟩
 have hgL : Keeps c s s' -> ChgLeaf c s s' g (fun _ _ => True) := by
  intro hk u' t' x' p i pa _ hbor
  cases hpi : lookM L p i with
  | none =>
   have hf : g.f p i pa ⟨t', x', .bor p i pa⟩ = ⟨t', x', .bor p i pa⟩ := by simp [g, syncsG, hpi]
   rw [hf]
   exact ⟨rfl, hbor.keep hk (hstay p i hpi)⟩
  | some n =>
   cases pa with
   | nil =>
    have hf : g.f p i [] ⟨t', x', .bor p i []⟩ = ⟨n.t, n.x, .bor p i []⟩ := by simp [g, syncsG, hpi]
    rw [hf]
    refine ⟨rfl, ?_⟩
    obtain ⟨_, ⟨lf', u2, ⟨o1, o2, o3⟩, h5⟩, _⟩ := hbor
    obtain ⟨mm, _, rfl⟩ := h5 rfl
    refine ⟨?_, ⟨n, u2, hown p i n u2 hpi o3, fun _ => ⟨_, rfl, rfl⟩⟩, fun _ _ hp => by simp at hp⟩
    refine Rep.move (fun b hb _ => ⟨?_, rfl⟩) (by simp) (Rep.ro (hrep p i n u2 hpi o3))
    rcases hb with hb | hb
    ·exact absurd hb id
    ·exact .inr (by rw [ebS hpi]; exact hb)
   | cons z pa =>
    have hf : g.f p i (z :: pa) ⟨t', x', .bor p i (z :: pa)⟩ = Leaf.lost ⟨t', x', .bor p i (z :: pa)⟩ := by simp [g, syncsG, hpi]
    rw [hf]
    exact ⟨rfl, Rep.one hbor.1 u' (by simp)⟩
 have hgW : Keeps c s s' -> ChgWr c s s' g (fun _ _ => True) := by
  intro hk a p i pa ii oo _ hw
  show if (lookM L p i).isSome = true then _ else _
  cases hpi : lookM L p i with
  | some n => simp only [Option.isSome_some, if_true]; exact .inl rfl
  | none =>
   simp only [Option.isSome_none, Bool.false_eq_true, if_false]
   have := Yz (L := fun p i => lookM L p i = none) hk (fun p i hL => hstay p i hL) a p i pa ii oo hpi hw
   simpa [noG] using this
 have hmain : Rel c s' := by
  refine Rel.step (s' := s') g hrel D (fun _ _ => True) (fun _ => True) hsame hbel
   (fun b hb hD => hheap b hb (fun q j n hq => hD q (j + 1) ⟨j, n, hq⟩)) (fun p l b hD hb => ?_) (fun p1 l1 p2 l2 b hD hD' hb1 hb2 => ?_) (fun p l hD => ?_) (fun p _ => ⟨fun _ _ => trivial, fun _ _ => trivial⟩) (fun hkp => ⟨hgL hkp, hgW hkp, fun p hL _ => hptr p⟩) (fun hkp p hD => ?_)
  ·rcases part p l b hb with ⟨h1, _⟩ | ⟨j, n, rfl, h1, h2⟩
   ·exact ⟨Nat.lt_of_lt_of_le (hrel.own _ _ _ h1).2 hbel.size, .inr ⟨p, l, hD, h1⟩⟩
   ·obtain ⟨k1, k2⟩ := hbd1 p j n h1 b h2
    refine ⟨k1, ?_⟩
    rcases k2 with k2 | ⟨q', j', n', k3, k4⟩
    ·exact .inl k2
    ·exact .inr ⟨q', j' + 1, ⟨j', n', k3⟩, k4⟩
  ·have key : ∀ p l j n q, b ∈ bs p l -> (∀ i, l = i + 1 -> lookM L p i = none) -> lookM L q j = some n -> b ∈ bd q j -> False := by
    intro p l j n q h1 h2 h3 h4
    rcases (hbd1 q j n h3 b h4).2 with k2 | ⟨q', j', n', k3, k4⟩
    ·have : b < w.heap.size := (hrel.own _ _ _ h1).2
     omega
    ·obtain ⟨rfl, h5⟩ := hrel.disj _ _ _ _ _ h1 k4
     rw [h2 j' h5] at k3; simp at k3
   rcases part p1 l1 b hb1 with ⟨h1, h1'⟩ | ⟨j1, n1, rfl, h1, h1'⟩ <;> rcases part p2 l2 b hb2 with ⟨h2, h2'⟩ | ⟨j2, n2, rfl, h2, h2'⟩
   ·exact hrel.disj _ _ _ _ _ h1 h2
   ·exact (key _ _ _ _ _ h1 h1' h2 h2').elim
   ·exact (key _ _ _ _ _ h2 h2' h1 h1').elim
   ·obtain ⟨rfl, rfl⟩ := hbd3 _ _ _ _ _ _ _ h1 h2 h1' h2'
    exact ⟨rfl, rfl⟩
  ·cases l with
   | zero => exact hrel.nodup _ _
   | succ j =>
    cases hk : lookM L p j with
    | none => rw [ebN hk]; exact hrel.nodup _ _
    | some n => rw [ebS hk]; exact hbd2 p j n hk
  ·obtain ⟨j0, n0, hk0⟩ := hD
   obtain ⟨k, ls0, hv, hp⟩ := hcon p j0 n0 hk0
   have hv' : ovl env noP p = .con k ls0 := by rw [Y7 hp, hv]
   have hav := hrel.av p
   rw [show (SS env noP tmps vs w cs bs).env p = .con k ls0 from hv'] at hav
   obtain ⟨g1, g2, g3, g4⟩ := hav
   rw [eEcon hv']
   refine ⟨?_, by rw [Y2w, Yh]; exact g2, fun l hl' => ?_, fun l lf u' hl' hu' => ?_⟩
   ·rw [eb0]
    cases k with
    | val => exact g1
    | agg => exact g1
    | tup sh => exact g1
    | box e =>
     obtain ⟨B, k1, k2, k3, k9⟩ := g1
     have k3 : bs p 0 = [B] := k3
     exact ⟨B, k1, (hne0 p B (by rw [k3]; simp)).trans k2, k3, k9⟩
   ·rw [Y2w, Yh] at hl'
    cases hk : lookM L p l with
    | none => rw [ebN hk]; exact g3 l hl'
    | some n =>
     exfalso
     obtain ⟨x, lv, h1, _, _⟩ := hL p l n hk
     rw [hv] at h1
     have h1 : leafAt ls0 l = some _ := h1
     rw [Y1] at h1
     have := (List.getElem?_eq_some_iff.1 h1).1
     omega
   ·have hu' : (cs p)[l]? = some u' := hu'
    rw [Y1, Y1t, Nat.zero_add, <- Y1, Yd] at hl'
    obtain ⟨lfg, hlg, rfl⟩ := Option.map_eq_some_iff.1 hl'
    obtain ⟨lf0, hlf0, rfl⟩ := Option.map_eq_some_iff.1 hlg
    cases hk : lookM L p l with
    | none =>
     exact (g4 l lf0 u' hlf0 hu').chg hkp (hgL hkp) (fun z hz => trivial) (ebN hk) (fun b hb => hne p l b hk hb)
    | some n =>
     obtain ⟨x, lv, h1, h2, h3⟩ := hL p l n hk
     rw [hv] at h1
     have h1 : leafAt ls0 l = some _ := h1
     rw [hlf0] at h1
     simp only [Option.some.injEq] at h1
     subst h1
     have hpin := (g4 l _ u' hlf0 hu').pin
     have hr := hrep p l n u' hk hu'
     obtain ⟨t, y, m⟩ := n
     simp only at h2 hr
     subst h2
     refine LeafRel.of_rep hpin ?_
     rw [ebS hk]
     exact (Rep.deep h3).2 (Rep.dpS hr)
 have eE : s'.env = ovl (syncs L env) noP := by
  funext p
  by_cases hp : p < env.length
  ·rw [Y7 (by rw [Y1y]; exact hp), Ybx]
   show ((ovl env noP p).chg g).renew L p = _
   rw [Y7 hp]
  ·rw [Yf (by rw [Y1y]; omega)]
   show ((ovl env noP p).chg g).renew L p = _
   rw [Yf (by omega)]
   rfl
 refine ⟨by rw [Y1y]; exact hlen, cs, s'.bs, Rel.congr hmain eE rfl, fun p => ?_⟩
 rw [<- eE, Y1y]
 have h1 := Yb3 (L := L) (fun q j n hk => let ⟨_, lv, _, h, _⟩ := hL q j n hk; ⟨lv, h⟩) p ((ovl env noP p).chg g)
 have h2 := Yj (Ya3 L) (ovl env noP p)
 exact ⟨fun z hz => (hno p).1 z (h2.1 z (h1.1 z hz)), fun z hz => (hno p).2 z (h2.2 z (h1.2 z hz))⟩
end Go.FP

namespace Go.FP
open Go.RowKit
theorem Y4n : ∀ {t : Ty}, t.flatB = true -> ∀ t' ∈ flat t, t'.flatB = true
 | .int k, _, t', h => by simp [flat] at h; subst h; rfl
 | .bool, _, t', h => by simp [flat] at h; subst h; rfl
 | .str, _, t', h => by simp [flat] at h; subst h; rfl
 | .slice _ _, hf, _, _ => by simp [Ty.flatB] at hf
 | .unit, _, t', h => by simp [flat] at h
 | .pair a b, hf, t', h => by
  simp only [Ty.flatB, Bool.and_eq_true] at hf
  simp only [flat, List.mem_append] at h
  rcases h with h | h
  ·exact Y4n hf.1 t' h
  ·exact Y4n hf.2 t' h
theorem Y2x : ∀ {rs : List (Ty × Lvl)} {xs : List (Σ t : Ty, t.D)} {sh : List (Bool × Nat)} {ls : List Leaf}, allFlat rs = true -> resLeaves rs xs = some (sh, ls) -> ∀ lf ∈ ls, lf.t.flatB = true
 | [], [], sh, ls, _, h, lf, hl => by
  simp only [resLeaves, Option.some.injEq, Prod.mk.injEq] at h
  obtain ⟨rfl, rfl⟩ := h
  simp at hl
 | [], _ :: _, sh, ls, _, h, lf, hl => by simp [resLeaves] at h
 | _ :: _, [], sh, ls, _, h, lf, hl => by simp [resLeaves] at h
 | (t, fr) :: rs, x :: xs, sh, ls, ha, h, lf, hl => by
  simp only [allFlat, Bool.and_eq_true] at ha
  simp only [resLeaves] at h
  split at h
  ·cases hr : resLeaves rs xs with
   | none => rw [hr] at h; simp at h
   | some q =>
    obtain ⟨sh', ls'⟩ := q
    rw [hr] at h
    simp only [Option.some.injEq, Prod.mk.injEq] at h
    obtain ⟨rfl, rfl⟩ := h
    rcases List.mem_append.1 hl with hl | hl
    ·obtain ⟨lf0, hl0, rfl⟩ := List.mem_map.1 hl
     have : lf0.t ∈ flat t := by rw [<- Yk t _ (newMode fr) 0]; exact List.mem_map.2 ⟨lf0, hl0, rfl⟩
     exact Y4n ha.1 _ this
    ·exact Y2x ha.2 hr lf hl
  ·simp at h
theorem Yb4 {rs : List (Ty × Lvl)} {xs : List (Σ t : Ty, t.D)} {k : Kind} {ls : List Leaf} (hf : allFlat rs = true) (ha : resAV rs xs = some (.con k ls)) : ∀ lf ∈ ls, lf.t.flatB = true := by
 unfold resAV at ha
 cases hr : resLeaves rs xs with
 | none => rw [hr] at ha; simp at ha
 | some q =>
  obtain ⟨sh, ls'⟩ := q
  rw [hr] at ha
  simp only [mkCon] at ha
  split at ha
  ·simp only [Option.some.injEq, AV.con.injEq] at ha
   rw [<- ha.2]; exact Y2x hf hr
  ·simp only [Option.some.injEq, AV.con.injEq] at ha
   rw [<- ha.2]; exact Y2x hf hr
theorem Y3z {lv m : Lvl} : ∀ (t : Ty) (x : t.D) (n : Nat), ∀ lf ∈ leaves t x (fun _ => .at_ lv) n, lf.t.flatB = false -> lf.m = .at_ m -> m = lv
 | .int k, x, n, lf, h, hf, hm => by simp [leaves] at h; rw [h] at hf; simp [Ty.flatB] at hf
 | .bool, x, n, lf, h, hf, hm => by simp [leaves] at h; rw [h] at hf; simp [Ty.flatB] at hf
 | .str, x, n, lf, h, hf, hm => by simp [leaves] at h; rw [h] at hf; simp [Ty.flatB] at hf
 | .slice e t, x, n, lf, h, hf, hm => by simp [leaves] at h; rw [h] at hm; simpa using hm.symm
 | .unit, x, n, lf, h, hf, hm => by simp [leaves] at h
 | .pair a b, x, n, lf, h, hf, hm => by
  simp only [leaves, List.mem_append] at h
  rcases h with h | h
  ·exact Y3z a _ _ _ h hf hm
  ·exact Y3z b _ _ _ h hf hm
structure MutSet (env : Env) (ls ns : List Leaf) (L : Places) : Prop where
 len : ls.length = ns.length
 here : ∀ (i : Nat) (l n : Leaf), ls[i]? = some l -> ns[i]? = some n -> (l.t.flatB = true /\ l.m.live = true) \/ (l.t.flatB = false /\ ∃ (r j : Nat) (t0 : Ty) (x0 : t0.D) (lv : Lvl), l.m = .bor r j [] /\ (get env r).leaf? j = some ⟨t0, x0, .at_ lv⟩ /\ lv.deep = true /\ lookM L r j = some ⟨n.t, n.x, .at_ lv⟩)
 back : ∀ (r j : Nat) (m : Leaf), lookM L r j = some m -> ∃ (i : Nat) (l n : Leaf) (lv : Lvl) (t0 : Ty) (x0 : t0.D), ls[i]? = some l /\ ns[i]? = some n /\ l.t.flatB = false /\ l.m = .bor r j [] /\ m = ⟨n.t, n.x, .at_ lv⟩ /\ lv.deep = true /\ (get env r).leaf? j = some ⟨t0, x0, .at_ lv⟩
 uniq : ∀ (i i' : Nat) (l l' : Leaf) (r j : Nat), ls[i]? = some l -> ls[i']? = some l' -> l.t.flatB = false -> l'.t.flatB = false -> l.m = .bor r j [] -> l'.m = .bor r j [] -> i = i'
theorem Y62 {env : Env} : ∀ {ls ns : List Leaf} {L : Places}, mutSet env ls ns = some L -> MutSet env ls ns L
 | [], [], L, h => by
  simp only [mutSet, Option.some.injEq] at h
  subst h
  exact ⟨rfl, by simp, fun r j m h => by simp [lookM] at h, by simp⟩
 | [], _ :: _, L, h => by simp [mutSet] at h
 | _ :: _, [], L, h => by simp [mutSet] at h
 | l :: ls, n :: ns, L, h => by
  simp only [mutSet] at h
  split at h
  ·simp at h
  ·rename_i L0 h0
   obtain ⟨k1, k2, k3, k4⟩ := Y62 h0
   split at h
   ·rename_i hf
    split at h
    ·rename_i hlv
     simp only [Option.some.injEq] at h
     subst h
     refine ⟨by simp [k1], fun i l' n' hl hn => ?_, fun r j m hm => ?_, fun i i' l1 l2 r j h1 h2 f1 f2 m1 m2 => ?_⟩
     ·cases i with
      | zero => simp only [List.getElem?_cons_zero, Option.some.injEq] at hl; subst hl; exact .inl ⟨hf, hlv⟩
      | succ i => exact k2 i l' n' hl hn
     ·obtain ⟨i, h⟩ := k3 r j m hm
      exact ⟨i + 1, h⟩
     ·cases i with
      | zero => simp only [List.getElem?_cons_zero, Option.some.injEq] at h1; subst h1; rw [hf] at f1; simp at f1
      | succ i => cases i' with
       | zero => simp only [List.getElem?_cons_zero, Option.some.injEq] at h2; subst h2; rw [hf] at f2; simp at f2
       | succ i' => rw [k4 i i' l1 l2 r j h1 h2 f1 f2 m1 m2]
    ·simp at h
   ·rename_i hf
    have hf : l.t.flatB = false := by simpa using hf
    split at h
    ·rename_i r0 j0 hm0
     split at h
     ·rename_i t0 x0 lv hpl
      split at h
      ·rename_i hc
       obtain ⟨hd, hnone⟩ := hc
       have hnone : lookM L0 r0 j0 = none := by simpa using hnone
       simp only [Option.some.injEq] at h
       subst h
       have look : ∀ r j, ¬ (r = r0 /\ j = j0) -> lookM ((r0, j0, (⟨n.t, n.x, .at_ lv⟩ : Leaf)) :: L0) r j = lookM L0 r j := fun r j h => by simp only [lookM]; rw [if_neg h]
       have look0 : lookM ((r0, j0, (⟨n.t, n.x, .at_ lv⟩ : Leaf)) :: L0) r0 j0 = some ⟨n.t, n.x, .at_ lv⟩ := by simp [lookM]
       have tail : ∀ (i : Nat) (l' : Leaf), ls[i]? = some l' -> l'.t.flatB = false -> l'.m ≠ .bor r0 j0 [] := fun i l' h1 f1 m1 => by
        have hlt : i < ns.length := by rw [<- k1]; exact (List.getElem?_eq_some_iff.1 h1).1
        rcases k2 i l' _ h1 (List.getElem?_eq_getElem hlt) with ⟨h, _⟩ | ⟨_, r, j, t1, x1, lv1, e1, _, _, e2⟩
        ·rw [f1] at h; simp at h
        ·rw [m1] at e1
         simp only [Mode.bor.injEq, and_true] at e1
         obtain ⟨rfl, rfl⟩ := e1
         rw [hnone] at e2; simp at e2
       refine ⟨by simp [k1], fun i l' n' hl hn => ?_, fun r j m hm => ?_, fun i i' l1 l2 r j h1 h2 f1 f2 m1 m2 => ?_⟩
       ·cases i with
        | zero =>
         simp only [List.getElem?_cons_zero, Option.some.injEq] at hl hn
         subst hl; subst hn
         exact .inr ⟨hf, r0, j0, t0, x0, lv, hm0, hpl, hd, look0⟩
        | succ i =>
         rcases k2 i l' n' hl hn with h | ⟨h1, r, j, t1, x1, lv1, e1, e2, e3, e4⟩
         ·exact .inl h
         ·refine .inr ⟨h1, r, j, t1, x1, lv1, e1, e2, e3, ?_⟩
          rw [look r j (fun h => tail i l' hl h1 (by rw [e1, h.1, h.2]))]
          exact e4
       ·by_cases hrj : r = r0 /\ j = j0
        ·obtain ⟨rfl, rfl⟩ := hrj
         rw [look0] at hm
         simp only [Option.some.injEq] at hm
         subst hm
         exact ⟨0, l, n, lv, t0, x0, rfl, rfl, hf, hm0, rfl, hd, hpl⟩
        ·rw [look r j hrj] at hm
         obtain ⟨i, h⟩ := k3 r j m hm
         exact ⟨i + 1, h⟩
       ·cases i with
        | zero =>
         simp only [List.getElem?_cons_zero, Option.some.injEq] at h1
         subst h1
         rw [hm0] at m1
         simp only [Mode.bor.injEq, and_true] at m1
         obtain ⟨rfl, rfl⟩ := m1
         cases i' with
         | zero => rfl
         | succ i' => exact absurd m2 (tail i' l2 h2 f2)
        | succ i =>
         cases i' with
         | zero =>
          simp only [List.getElem?_cons_zero, Option.some.injEq] at h2
          subst h2
          rw [hm0] at m2
          simp only [Mode.bor.injEq, and_true] at m2
          obtain ⟨rfl, rfl⟩ := m2
          exact absurd m1 (tail i l1 h1 f1)
         | succ i' => rw [k4 i i' l1 l2 r j h1 h2 f1 f2 m1 m2]
      ·simp at h
     ·simp at h
    ·simp at h
def MutOk (c : Cx) (env : Env) (tmps : Array Value) (w : World) (vs : Nat -> Value) (bs : Nat -> Nat -> List Nat) (t : Ty) (cells : List Value) (ls : List Leaf) (x y : t.D) (L : Places) : Prop :=
 ∃ b0 : List Nat, Rep (fun _ => False) w t .dp cells x b0 /\ b0.Nodup /\ (∀ b ∈ b0, ∃ q ∈ ls.flatMap Leaf.refs, b ∈ bs q.1 (q.2 + 1)) /\
  ∀ (w' : World) (b1 : List Nat), Below c.base w w' -> (∀ b, b < w.heap.size -> b ∉ b0 -> w'.heap[b]? = w.heap[b]?) -> Rep (fun _ => False) w' t .dp cells y b1 -> b1.Nodup -> (∀ b ∈ b1, b ∈ b0 \/ w.heap.size <= b) -> RP c (syncs L env) tmps w' noP vs
section
variable {c : Cx} {env : Env} {tmps : Array Value} {w : World} {vs : Nat -> Value} {cs : Nat -> List Value} {bs : Nat -> Nat -> List Nat}
theorem Y7i {bds : List (List Nat)} {l b : Nat} (h : b ∈ bds.getD l []) : l < bds.length := by
 rw [List.getD_eq_getElem?_getD] at h
 cases hl : bds[l]? with
 | none => rw [hl] at h; simp at h
 | some x => exact (List.getElem?_eq_some_iff.1 hl).1
theorem Yda (hlen : env.length = tmps.size) (hrel : Rel c (SS env noP tmps vs w cs bs)) (hno : ∀ r, (∀ q ∈ (ovl env noP r).refs, q.1 < env.length) /\ (∀ q ∈ (ovl env noP r).ptrs, q < env.length)) {t : Ty} {k : Kind} {ls : List Leaf} {v : Value} {cells : List Value} {x y : t.D} {L : Places}
  (hv : ValC c (SS env noP tmps vs w cs bs) (.con k ls) v cells) (hty : typedAs ls t = true) (hx : asm t ls = some (x, [])) (hM : mutSet env ls (leaves t y (fun _ => .at_ .dp) 0) = some L) : MutOk c env tmps w vs bs t cells ls x y L := by
 obtain ⟨k1, k2, k3, k4⟩ := Y62 hM
 obtain ⟨g1, g2, g3⟩ := hv
 have hty' : ls.map Leaf.t = flat t := by simpa [typedAs] using hty
 have hls : ls.length = t.sz := Y19 hty
 -- a row's place
 have place : ∀ (i : Nat) (l : Leaf) (u : Value) (r j : Nat) (t0 : Ty) (x0 : t0.D) (lv : Lvl), ls[i]? = some l -> cells[i]? = some u -> l.m = .bor r j [] -> (get env r).leaf? j = some ⟨t0, x0, .at_ lv⟩ -> lv.deep = true -> (cs r)[j]? = some u /\ t0 = l.t /\ Rep (fun _ => False) w l.t .dp [u] l.x (bs r (j + 1)) := by
  intro i l u r j t0 x0 lv hl hu hm hp hd
  have h6 := g3 i l u (by rw [Y1]; exact hl) hu
  obtain ⟨lt, lx, lm⟩ := l
  simp only at hm
  subst hm
  obtain ⟨_, ⟨lf', u', ⟨o1, o2, o3⟩, h5⟩, _⟩ := h6
  obtain ⟨mm, rfl, rfl⟩ := h5 rfl
  have hrl : r < env.length := Y1b hp
  have o1 : (ovl env noP r).leaf? j = some _ := o1
  rw [Y7 hrl, hp] at o1
  simp only [Option.some.injEq, Leaf.mk.injEq] at o1
  obtain ⟨rfl, hx0, rfl⟩ := o1
  have hx0 : x0 = lx := eq_of_heq hx0
  subst hx0
  refine ⟨o3, rfl, ?_⟩
  have hav := hrel.av r
  rw [show (SS env noP tmps vs w cs bs).env r = get env r from Y7 hrl] at hav
  cases hv : get env r with
  | con kk ls0 =>
   rw [hv] at hav hp
   exact Rep.dpS ((Rep.deep hd).1 (hav.2.2.2 j _ _ hp o3).rep)
  | _ => rw [hv] at hp; simp [AV.leaf?] at hp
 let F : Nat -> List Nat := fun i => match ls[i]? with
  | some l => if l.t.flatB then [] else (match l.m with | .bor r j _ => bs r (j + 1) | _ => [])
  | none => []
 have hFi : ∀ {i : Nat} {l : Leaf}, ls[i]? = some l -> F i = if l.t.flatB then [] else (match l.m with | .bor r j _ => bs r (j + 1) | _ => []) := fun {i l} h => by
  show (match ls[i]? with | some l => _ | none => _) = _
  rw [h]
 have hns : (leaves t y (fun _ => .at_ .dp) 0).length = ls.length := k1.symm
 have hF : ∀ (i b : Nat), b ∈ F i -> ∃ (l : Leaf) (r j : Nat), ls[i]? = some l /\ l.t.flatB = false /\ l.m = .bor r j [] /\ b ∈ bs r (j + 1) := by
  intro i b hb
  cases hl : ls[i]? with
  | none =>
   have : F i = [] := by show (match ls[i]? with | some l => _ | none => _) = _; rw [hl]
   rw [this] at hb; simp at hb
  | some l =>
   rw [hFi hl] at hb
   have hlt : i < (leaves t y (fun _ => .at_ .dp) 0).length := by rw [hns]; exact (List.getElem?_eq_some_iff.1 hl).1
   rcases k2 i l _ hl (List.getElem?_eq_getElem hlt) with ⟨h, _⟩ | ⟨h, r, j, t0, x0, lv, e1, _⟩
   ·rw [h] at hb; simp at hb
   ·rw [h, e1] at hb
    exact ⟨l, r, j, rfl, h, e1, by simpa using hb⟩
 have hFb : ∀ {i : Nat} {l : Leaf} {r j : Nat}, ls[i]? = some l -> l.t.flatB = false -> l.m = .bor r j [] -> F i = bs r (j + 1) := fun {i l r j} h1 h2 h3 => by
  rw [hFi h1, h2, h3]; rfl
 obtain ⟨c0, c1, e0, _, e2, e3, _⟩ := Y2f (S := fun _ => False) (w := w) (L := .dp) (F := F) t (k := 0) hx g2 (fun l lf u hl hu => by
  rw [Nat.zero_add]
  have hlt : l < (leaves t y (fun _ => .at_ .dp) 0).length := by rw [hns]; exact (List.getElem?_eq_some_iff.1 hl).1
  rcases k2 l lf _ hl (List.getElem?_eq_getElem hlt) with ⟨h1, h2⟩ | ⟨h1, r, j, t0, x0, lv, m1, m2, m3, _⟩
  ·have h6 := (g3 l lf u (by rw [Y1]; exact hl) hu).rep (S := fun _ => True) h2 (fun _ _ => trivial) (fun _ _ _ _ => trivial)
   rw [hFi hl, h1]
   exact (Rep.flat h1 h6).2
  ·rw [hFb hl h1 m1]
   exact (place l lf u r j t0 x0 lv hl hu m1 m2 m3).2.2)
 have hc1 : c1 = [] := List.length_eq_zero_iff.1 (by rw [<- e2]; rfl)
 subst hc1
 rw [List.append_nil] at e0
 subst e0
 have hFnd : ∀ i, (F i).Nodup := fun i => by
  cases hl : ls[i]? with
  | none =>
   have : F i = [] := by show (match ls[i]? with | some l => _ | none => _) = _; rw [hl]
   rw [this]; exact List.nodup_nil
  | some l =>
   rw [hFi hl]
   split
   ·exact List.nodup_nil
   ·split
    ·exact hrel.nodup _ _
    ·exact List.nodup_nil
 have hFd : ∀ i i' b, b ∈ F i -> b ∈ F i' -> i = i' := fun i i' b h1 h2 => by
  obtain ⟨l, r, j, a1, a2, a3, a4⟩ := hF i b h1
  obtain ⟨l', r', j', b1, b2, b3, b4⟩ := hF i' b h2
  obtain ⟨rfl, hj⟩ := hrel.disj _ _ _ _ _ a4 b4
  obtain rfl : j = j' := by omega
  exact k4 i i' l l' r j a1 b1 a2 b2 a3 b3
 refine ⟨(List.range' 0 t.sz).flatMap F, e3, Y25 hFnd hFd _ _, fun b hb => ?_, fun w' b1 hbel hsame hrep' hnd1 hnew => ?_⟩
 ·simp only [List.mem_flatMap] at hb
  obtain ⟨i, _, hb⟩ := hb
  obtain ⟨l, r, j, a1, a2, a3, a4⟩ := hF i b hb
  exact ⟨(r, j), List.mem_flatMap.2 ⟨l, List.mem_of_getElem? a1, by simp [Leaf.refs, a3]⟩, a4⟩
 ·obtain ⟨n1, n2, bds, n3, n4, n5⟩ := Y2h .dp t 0 hrep'
  rw [n4] at hnd1 hnew
  obtain ⟨d1, d2⟩ := Y15 hnd1
  have hb0 : ∀ b, b ∈ (List.range' 0 t.sz).flatMap F -> ∃ q' j' n', lookM L q' j' = some n' /\ b ∈ bs q' (j' + 1) := fun b hb => by
   simp only [List.mem_flatMap] at hb
   obtain ⟨i, _, hb⟩ := hb
   obtain ⟨l, r, j, a1, a2, a3, a4⟩ := hF i b hb
   have hlt : i < (leaves t y (fun _ => .at_ .dp) 0).length := by rw [hns]; exact (List.getElem?_eq_some_iff.1 a1).1
   rcases k2 i l _ a1 (List.getElem?_eq_getElem hlt) with ⟨h, _⟩ | ⟨_, r', j', t0, x0, lv, m1, _, _, m4⟩
   ·rw [a2] at h; simp at h
   ·rw [a3] at m1
    simp only [Mode.bor.injEq, and_true] at m1
    obtain ⟨rfl, rfl⟩ := m1
    exact ⟨r, j, _, m4, a4⟩
  have hb0' : ∀ q j n, lookM L q j = some n -> ∀ b ∈ bs q (j + 1), b ∈ (List.range' 0 t.sz).flatMap F := fun q j n hk b hb => by
   obtain ⟨i, l, nn, lv, t0, x0, a1, a2, a3, a4, _⟩ := k3 q j n hk
   refine List.mem_flatMap.2 ⟨i, ?_, by rw [hFb a1 a3 a4]; exact hb⟩
   rw [List.mem_range'_1]
   have := (List.getElem?_eq_some_iff.1 a1).1
   omega
  -- which leaf
  have idx : ∀ q j n, lookM L q j = some n -> ∃ (i : Nat), (∃ (l nn : Leaf), ls[i]? = some l /\ (leaves t y (fun _ => .at_ .dp) 0)[i]? = some nn /\ l.t.flatB = false /\ l.m = .bor q j [] /\ nn.t = n.t /\ HEq nn.x n.x) := fun q j n hk => by
   obtain ⟨i, l, nn, lv, t0, x0, a1, a2, a3, a4, a5, _⟩ := k3 q j n hk
   exact ⟨i, l, nn, a1, a2, a3, a4, by rw [a5], by rw [a5]⟩
  classical
  let bd : Nat -> Nat -> List Nat := fun q j => if h : ∃ (i : Nat) (l : Leaf), ls[i]? = some l /\ l.t.flatB = false /\ l.m = .bor q j [] then bds.getD (Classical.choose h) [] else []
  have hbd : ∀ {q j i : Nat} {l : Leaf}, ls[i]? = some l -> l.t.flatB = false -> l.m = .bor q j [] -> bd q j = bds.getD i [] := fun {q j i l} h1 h2 h3 => by
   have hex : ∃ (i : Nat) (l : Leaf), ls[i]? = some l /\ l.t.flatB = false /\ l.m = .bor q j [] := ⟨i, l, h1, h2, h3⟩
   show (if h : _ then _ else _) = _
   rw [dif_pos hex]
   obtain ⟨l', e1, e2, e3⟩ := Classical.choose_spec hex
   rw [k4 _ _ _ _ _ _ e1 h1 e2 h2 e3 h3]
  have hLok : ∀ q j n, lookM L q j = some n -> ∃ x lv, (get env q).leaf? j = some ⟨n.t, x, .at_ lv⟩ /\ n.m = .at_ lv /\ lv.deep = true := fun q j n hk => by
   obtain ⟨i, l, nn, lv, t0, x0, a1, a2, a3, a4, a5, a6, a7⟩ := k3 q j n hk
   have hcl : i < cells.length := by rw [<- g2]; exact (List.getElem?_eq_some_iff.1 a1).1
   obtain ⟨_, p2, _⟩ := place i l _ q j t0 x0 lv a1 (List.getElem?_eq_getElem hcl) a4 a7 a6
   have htt : nn.t = l.t := by
    have h1 : ((leaves t y (fun _ => .at_ .dp) 0).map Leaf.t)[i]? = some nn.t := by rw [List.getElem?_map, a2]; rfl
    have h2 : (ls.map Leaf.t)[i]? = some l.t := by rw [List.getElem?_map, a1]; rfl
    rw [Yk, <- hty', h2] at h1
    exact (Option.some.inj h1).symm
   subst a5
   have e : nn.t = t0 := by rw [htt, p2]
   exact ⟨e ▸ x0, lv, by rw [a7]; cases e; rfl, rfl, a6⟩
  refine RP.syncsAt hlen hrel hno hLok hbel (fun b hb hD => hsame b hb (fun hb2 => ?_)) bd (fun q j n hk b hb => ?_) (fun q j n hk => ?_) (fun q j n q' j' n' b hk hk' hb hb' => ?_) (fun q j n u hk hu => ?_)
  ·obtain ⟨q', j', n', h1, h2⟩ := hb0 b hb2
   exact hD q' j' n' h1 h2
  ·obtain ⟨i, l, nn, a1, a2, a3, a4, _⟩ := idx q j n hk
   rw [hbd a1 a3 a4] at hb
   have hi := Y7i hb
   obtain ⟨m, _, hr⟩ := n5 i nn (cells[i]'(by omega)) a2 (List.getElem?_eq_getElem (by omega))
   refine ⟨Rep.lt hr b hb, ?_⟩
   rcases hnew b (Yo hb) with h | h
   ·exact .inr (hb0 b h)
   ·exact .inl h
  ·obtain ⟨i, l, nn, a1, a2, a3, a4, _⟩ := idx q j n hk
   rw [hbd a1 a3 a4]
   exact d1 i
  ·obtain ⟨i, l, nn, a1, a2, a3, a4, _⟩ := idx q j n hk
   obtain ⟨i', l', nn', b1, b2, b3, b4, _⟩ := idx q' j' n' hk'
   rw [hbd a1 a3 a4] at hb
   rw [hbd b1 b3 b4] at hb'
   have := d2 i i' b hb hb'
   subst this
   rw [a1] at b1
   simp only [Option.some.injEq] at b1
   subst b1
   rw [a4] at b4
   simp only [Mode.bor.injEq, and_true] at b4
   exact b4
  ·obtain ⟨i, l, nn, lv, t0, x0, a1, a2, a3, a4, a5, a6, a7⟩ := k3 q j n hk
   have hcl : i < cells.length := by rw [<- g2]; exact (List.getElem?_eq_some_iff.1 a1).1
   obtain ⟨p1, p2, _⟩ := place i l _ q j t0 x0 lv a1 (List.getElem?_eq_getElem hcl) a4 a7 a6
   rw [hu] at p1
   obtain rfl := Option.some.inj p1
   obtain ⟨m, hm, hr⟩ := n5 i nn _ a2 (List.getElem?_eq_getElem hcl)
   rw [hbd a1 a3 a4]
   subst a5
   have hmode := Y1s t y 0 nn (List.mem_of_getElem? a2)
   have hnf : nn.t.flatB = false := by
    have h1 : ((leaves t y (fun _ => .at_ .dp) 0).map Leaf.t)[i]? = some nn.t := by rw [List.getElem?_map, a2]; rfl
    have h2 : (ls.map Leaf.t)[i]? = some l.t := by rw [List.getElem?_map, a1]; rfl
    rw [Yk, <- hty', h2] at h1
    rw [<- Option.some.inj h1]; exact a3
   have hmd : m = .dp := Y3z t y 0 nn (List.mem_of_getElem? a2) hnf hm
   subst hmd
   exact hr
end
end Go.FP

namespace Go.FP
open Go.RowKit
theorem Ydb {t : Ty} {q : Leaf} {x : t.D} (h : asm t [q] = some (x, [])) (hl : ∀ n, (leaves t x (fun _ => .at_ .dp) n).length = 1) {S : Nat -> Prop} {w : World} {lv : Lvl} {u : Value} {b : List Nat} (hq : Rep S w q.t lv [u] q.x b) : Rep S w t lv [u] x b := by
 have hsz : t.sz = 1 := by
  have := congrArg List.length (Yk t x (fun _ => .at_ .dp) 0)
  rw [List.length_map, hl, Y1h] at this
  exact this.symm
 obtain ⟨c0, c1, e0, _, e2, e3, _⟩ := Y2f (S := S) (w := w) (L := lv) (F := fun _ => b) (cells := [u]) t (k := 0) h rfl (fun l lf u' hl hu => by
  cases l with
  | zero =>
   simp only [List.getElem?_cons_zero, Option.some.injEq] at hl hu
   subst hl; subst hu
   exact hq
  | succ l => simp at hl)
 have hc1 : c1 = [] := List.length_eq_zero_iff.1 (by rw [<- e2]; rfl)
 subst hc1
 rw [List.append_nil] at e0
 subst e0
 rw [hsz] at e3
 simpa using e3
section
variable {c : Cx} {env : Env} {tmps : Array Value} {w : World} {vs : Nat -> Value} {cs : Nat -> List Value} {bs : Nat -> Nat -> List Nat}
theorem Ycq (hlen : env.length = tmps.size) (hrel : Rel c (SS env noP tmps vs w cs bs)) (hno : ∀ r, (∀ q ∈ (ovl env noP r).refs, q.1 < env.length) /\ (∀ q ∈ (ovl env noP r).ptrs, q < env.length)) {t : Ty} {k : Kind} {ls' : List Leaf} {v : Value} {cells : List Value} {x y : t.D} {L : Places}
  {e0 : TypeId} {t0 : Ty} {x0 : List t0.D} {r j : Nat} {i : Int} {o : Nat} {n : Leaf}
  (hv : ValC c (SS env noP tmps vs w cs bs) (.con k [⟨.slice e0 t0, x0, .bor r j [(i, o)]⟩]) v cells) (hty : typedAs [⟨.slice e0 t0, x0, .bor r j [(i, o)]⟩] t = true) (hnow : argNow env [⟨.slice e0 t0, x0, .bor r j [(i, o)]⟩] = some ls') (hx : asm t ls' = some (x, [])) (hn : leaves t y (fun _ => .at_ .dp) 0 = [n]) (hM : mutNest env r j i o n = some L) : MutOk c env tmps w vs bs t cells [⟨.slice e0 t0, x0, .bor r j [(i, o)]⟩] x y L := by
 obtain ⟨g1, g2, g3⟩ := hv
 obtain ⟨u, rfl⟩ : ∃ u, cells = [u] := List.length_eq_one_iff.1 g2.symm
 have hty' : [Ty.slice e0 t0] = flat t := by simpa [typedAs] using hty
 have hlen1 : ∀ z m, (leaves t z (fun _ => .at_ .dp) m).length = 1 := fun z m => by
  have := congrArg List.length (Yk t z (fun _ => .at_ .dp) m)
  rw [List.length_map, <- hty'] at this
  exact this
 have hnt : n.t = .slice e0 t0 := by
  have := Yk t y (fun _ => .at_ .dp) 0
  rw [hn, <- hty'] at this
  simpa using this
 obtain ⟨_, _, h5⟩ := g3 0 _ u rfl rfl
 obtain ⟨ad, ⟨_, lf, uP, ⟨o1, _, o3⟩, k6⟩, k7⟩ := h5 _ _ rfl
 obtain ⟨e, te, xs, m', B, nn, cp, m1, m2, hi0, hin, m5⟩ := k6 rfl
 subst m1
 -- the place
 unfold mutNest at hM
 split at hM
 ·rename_i e2 te2 xs2 lv hq
  have hrl : r < env.length := Y1b hq
  have o1 : (ovl env noP r).leaf? j = some _ := o1
  rw [Y7 hrl, hq] at o1
  simp only [Option.some.injEq, Leaf.mk.injEq, Ty.slice.injEq] at o1
  obtain ⟨⟨rfl, rfl⟩, hxx, rfl⟩ := o1
  have hxx : xs2 = xs := eq_of_heq hxx
  subst hxx
  split at hM
  ·rename_i hlv
   split at hM
   ·rename_i y' hy
    simp only [Option.some.injEq] at hM
    subst hM
    simp only [argNow, hq] at hnow
    split at hnow
    ·rename_i q hleaf
     simp only [Option.some.injEq] at hnow
     subst hnow
     have hgetD : xs2.getD i.toNat te2.dflt = xs2[i.toNat] := by simp [hin]
     rw [hgetD] at hy hleaf
     obtain ⟨B2, cp2, cells, b1, n1, n2, n3, n4⟩ := Yb0 hrel hlv hq (by omega)
     have o3 : (cs r)[j]? = some uP := o3
     rw [m2, n1] at o3
     simp only [Option.some.injEq, Value.slice.injEq, Addr.mk.injEq, and_true] at o3
     obtain ⟨rfl, rfl, rfl⟩ := o3
     obtain ⟨pre, ch, post, z0, z1, z2, f1, f2, f3, f4, f5, f6⟩ := El.at2 i.toNat hin n3
     have f5 : Rep (fun _ => False) w te2 .dp ch xs2[i.toNat] z1 := f5
     obtain ⟨u1, bA, bl, bB, h1, h2, h3, h4⟩ := Rep.leafAt te2 f5 hleaf
     have hoo : o < te2.sz := by
      have := (List.getElem?_eq_some_iff.1 h1).1
      omega
     have hcell : w.cell? ⟨B2, i.toNat * te2.sz + o, none⟩ = some u1 := by
      refine Ycp n4 ?_
      rw [f1, List.append_assoc, List.getElem?_append_right (by omega), List.getElem?_append_left (by omega), f2, show i.toNat * te2.sz + o - i.toNat * te2.sz = o by omega]
      exact h1
     have k7 : w.cell? ad = some u := k7
     rw [m5, hcell] at k7
     obtain rfl := Option.some.inj k7
     have hqt : q.1 = n.t := by
      obtain ⟨q2, e1, e2⟩ := Y2v te2 hy
      rw [hleaf] at e1
      rw [e2, Option.some.inj e1]
     -- blocks
     have hnd : (B2 :: b1).Nodup := by rw [<- n2]; exact hrel.nodup r (j + 1)
     rw [f4] at hnd
     have hmem : ∀ b ∈ B2 :: b1, c.base <= b /\ b < w.heap.size := fun b hb => let q := hrel.own r (j + 1) b (by show b ∈ bs r (j + 1); rw [n2]; exact hb); ⟨q.1.1, q.2⟩
     have hnd1 := (List.nodup_cons.1 hnd).2
     have hbl1 : ∀ b ∈ bl, b ∈ z0 ++ z1 ++ z2 := fun b hb => by rw [h2]; simp [hb]
     have hblnd : bl.Nodup := by
      rw [List.append_assoc] at hnd1
      have := (List.nodup_append.1 (List.nodup_append.1 hnd1).2.1).1
      rw [h2, List.append_assoc] at this
      exact (List.nodup_append.1 (List.nodup_append.1 this).2.1).1
     have hnb : ∀ b, b ∈ z0 ++ z2 \/ b ∈ bA ++ bB \/ b = B2 -> b ∉ bl := by
      intro b hb hbl
      rw [h2] at hnd
      rcases hb with hb | hb | rfl
      ·rw [List.append_assoc] at hnd1
       have h1z : b ∈ z1 := by rw [h2]; simp [hbl]
       rcases List.mem_append.1 hb with h | h
       ·exact (List.nodup_append.1 hnd1).2.2 b h b (List.mem_append_left _ h1z) rfl
       ·exact (List.nodup_append.1 (List.nodup_append.1 hnd1).2.1).2.2 b h1z b h rfl
      ·have h2' : (bA ++ bl ++ bB).Nodup := by
        rw [<- h2]
        rw [List.append_assoc] at hnd1
        exact (List.nodup_append.1 (List.nodup_append.1 hnd1).2.1).1
       rw [List.append_assoc] at h2'
       rcases List.mem_append.1 hb with h | h
       ·exact (List.nodup_append.1 h2').2.2 b h b (List.mem_append_left _ hbl) rfl
       ·exact (List.nodup_append.1 (List.nodup_append.1 h2').2.1).2.2 b hbl b h rfl
      ·refine (List.nodup_cons.1 hnd).1 ?_
       simp [hbl]
     have hlt : ∀ b ∈ z0 ++ z1 ++ z2, b < w.heap.size := fun b hb => (hmem b (List.mem_cons_of_mem _ (by rw [f4]; exact hb))).2
     refine ⟨bl, Ydb hx (hlen1 x) h3, hblnd, fun b hb => ⟨(r, j), by simp [Leaf.refs], ?_⟩, fun w' b2 hbel hsame hrep' hnd2 hnew => ?_⟩
     ·show b ∈ bs r (j + 1)
      rw [n2, f4]
      exact List.mem_cons_of_mem _ (hbl1 b hb)
     ·obtain ⟨p1, p2, bds, p3, p4, p5⟩ := Y2h .dp t 0 hrep'
      rw [hn] at p1 p5
      obtain ⟨bb, rfl⟩ : ∃ bb, bds = [bb] := List.length_eq_one_iff.1 p3
      have p4 : b2 = bb := by rw [p4]; simp
      subst p4
      obtain ⟨m, hm, hrn⟩ := p5 0 n u1 rfl rfl
      have hmd : m = .dp := Y3z t y 0 n (by rw [hn]; simp) (by rw [hnt]; rfl) hm
      subst hmd
      have hrn : Rep (fun _ => False) w' n.t .dp [u1] n.x b2 := hrn
      have old : ∀ b, b ∈ z0 ++ z2 \/ b ∈ bA ++ bB \/ b = B2 -> b < w.heap.size -> w'.heap[b]? = w.heap[b]? := fun b hb hl => hsame b hl (hnb b hb)
      obtain ⟨y2, e1, hup⟩ := h4 (fun _ => False) w' u1 n b2 hqt.symm hrn (fun _ h => h.elim) (fun b hb => old b (.inr (.inl hb)) (hlt b (by
       rw [h2]
       simp only [List.mem_append] at hb ⊢
       rcases hb with h | h <;> simp [h])))
      rw [hy] at e1
      obtain rfl := Option.some.inj e1
      have hch : ch.set o u1 = ch := by
       apply List.ext_getElem?
       intro k
       rw [List.getElem?_set]
       split
       ·rename_i hk
        subst hk
        split
        ·exact h1.symm
        ·omega
       ·rfl
      rw [hch] at hup
      have hel' := f6 (Rep (fun _ => False) w' te2 .dp) (fun c' x' b' hb' h' => Rep.move (fun _ h => h.elim) (fun b hb => old b (.inl (hb' b hb)) (hlt b (by
       have := hb' b hb
       simp only [List.mem_append] at this ⊢
       rcases this with h | h <;> simp [h]))) h') ch y' (bA ++ b2 ++ bB) f3 hup
      rw [<- f1] at hel'
      have hBlt : B2 < w.heap.size := (hmem B2 (by simp)).2
      have hlook : ∀ q' j' n', lookM [(r, j, (⟨.slice e2 te2, xs2.set i.toNat y', .at_ lv⟩ : Leaf))] q' j' = some n' -> q' = r /\ j' = j /\ n' = ⟨.slice e2 te2, xs2.set i.toNat y', .at_ lv⟩ := fun q' j' n' h => by
       simp only [lookM] at h
       split at h
       ·rename_i hc
        exact ⟨hc.1, hc.2, (Option.some.inj h).symm⟩
       ·simp at h
      have hblt : ∀ b ∈ b2, b < w'.heap.size := Rep.lt hrn
      -- the place's blocks now
      have hall : ∀ b, b ∈ B2 :: (z0 ++ (bA ++ b2 ++ bB) ++ z2) -> b ∈ b2 \/ ((b ∈ z0 ++ z2 \/ b ∈ bA ++ bB \/ b = B2) /\ b ∈ bs r (j + 1)) := by
       intro b hb
       rw [n2, f4, h2]
       simp only [List.mem_cons, List.mem_append] at hb ⊢
       rcases hb with h | (h | (h | h) | h) | h
       ·exact .inr ⟨.inr (.inr h), .inl h⟩
       ·exact .inr ⟨.inl (.inl h), by simp [h]⟩
       ·exact .inr ⟨.inr (.inl (.inl h)), by simp [h]⟩
       ·exact .inl h
       ·exact .inr ⟨.inr (.inl (.inr h)), by simp [h]⟩
       ·exact .inr ⟨.inl (.inr h), by simp [h]⟩
      have hb2out : ∀ b ∈ b2, ¬ (b ∈ z0 ++ z2 \/ b ∈ bA ++ bB \/ b = B2) := by
       intro b hb hc
       rcases hnew b hb with h | h
       ·exact hnb b hc h
       ·have : b ∈ B2 :: (z0 ++ z1 ++ z2) := by
         rw [h2]
         simp only [List.mem_cons, List.mem_append] at hc ⊢
         rcases hc with (h | h) | (h | h) | h <;> simp [h]
        have := (hmem b (by rw [f4]; exact this)).2
        omega
      refine RP.syncsAt (L := [(r, j, (⟨.slice e2 te2, xs2.set i.toNat y', .at_ lv⟩ : Leaf))]) hlen hrel hno (fun q' j' n' h => ?_) hbel (fun b hb hD => hsame b hb (fun hbl => ?_)) (fun _ _ => B2 :: (z0 ++ (bA ++ b2 ++ bB) ++ z2)) (fun q' j' n' h b hb => ?_) (fun q' j' n' h => ?_) (fun q1 j1 n1 q2 j2 n2 b h1 h2 _ _ => ?_) (fun q' j' n' uu h hu => ?_)
      ·obtain ⟨rfl, rfl, rfl⟩ := hlook _ _ _ h
       exact ⟨xs2, lv, hq, rfl, hlv⟩
      ·refine hD r j _ (by simp [lookM]; rfl) ?_
       rw [n2, f4]
       exact List.mem_cons_of_mem _ (hbl1 b hbl)
      ·obtain ⟨rfl, rfl, rfl⟩ := hlook _ _ _ h
       rcases hall b hb with h | ⟨_, h⟩
       ·refine ⟨hblt b h, ?_⟩
        rcases hnew b h with h | h
        ·refine .inr ⟨q', j', _, by simp [lookM]; rfl, ?_⟩
         rw [n2, f4]
         exact List.mem_cons_of_mem _ (hbl1 b h)
        ·exact .inl h
       ·exact ⟨Nat.lt_of_lt_of_le (hrel.own _ _ _ h).2 hbel.size, .inr ⟨q', j', _, by simp [lookM]; rfl, h⟩⟩
      ·rw [h2] at hnd
       have h0 : (B2 :: (z0 ++ (bA ++ bB) ++ z2)).Nodup := hnd.sublist (by
        refine List.Sublist.cons_cons _ (List.Sublist.append (List.Sublist.append (List.Sublist.refl _) ?_) (List.Sublist.refl _))
        rw [List.append_assoc]
        exact List.Sublist.append (List.Sublist.refl _) (List.sublist_append_right _ _))
       have hperm : List.Perm (B2 :: (z0 ++ (bA ++ b2 ++ bB) ++ z2)) (b2 ++ (B2 :: (z0 ++ (bA ++ bB) ++ z2))) := by
        rw [List.perm_iff_count]
        intro a
        simp only [List.count_cons, List.count_append]
        omega
       refine hperm.nodup_iff.2 (List.nodup_append.2 ⟨hnd2, h0, fun a ha b hb e => ?_⟩)
       subst e
       refine hb2out a ha ?_
       simp only [List.mem_cons, List.mem_append] at hb ⊢
       rcases hb with h | (h | h | h) | h <;> simp [h]
      ·obtain ⟨rfl, rfl, _⟩ := hlook _ _ _ h1
       obtain ⟨rfl, rfl, _⟩ := hlook _ _ _ h2
       exact ⟨rfl, rfl⟩
      ·obtain ⟨rfl, rfl, rfl⟩ := hlook _ _ _ h
       rw [n1] at hu
       obtain rfl := Option.some.inj hu
       refine ⟨_, cells, [B2], z0 ++ (bA ++ b2 ++ bB) ++ z2, rfl, rfl, hel', rfl, ?_⟩
       rw [List.length_set]
       exact Y3a n4 (fun k hk => by
        have : B2 = k := by simpa [Value.ownBlock] using hk
        subst this
        exact old B2 (.inr (.inr rfl)) hBlt)
    ·simp at hnow
   ·simp at hM
  ·simp at hM
 ·simp at hM
end
end Go.FP

namespace Go.FP
open Go.RowKit
section
variable {P : Program} {o : Oper} {a : Act} {w : World} {R : Type} {K : Env -> Option R} {r : R} {next : Act -> World -> Prop} {Q : Exit -> Act -> World -> Prop} {c : Cx} {d : Nat} {T : Tab} {env : Env} {sig : FuncId -> Option Sig} {caps : FuncId -> List Ty} {orc : Orc}
theorem Ya4 {env : Env} {ls ls' : List Leaf} (h : argNow env ls = some ls') : ls' = ls \/ ∃ e0 t0 x0 r j i o, ls = [⟨.slice e0 t0, x0, .bor r j [(i, o)]⟩] := by
 unfold argNow at h
 split at h
 ·exact .inr ⟨_, _, _, _, _, _, _, rfl⟩
 ·exact .inl (Option.some.inj h).symm
theorem Ydc {tmps : Array Value} {vs : Nat -> Value} {cs : Nat -> List Value} {bs : Nat -> Nat -> List Nat} (hlen : env.length = tmps.size) (hrel : Rel c (SS env noP tmps vs w cs bs)) (hno : ∀ r, (∀ q ∈ (ovl env noP r).refs, q.1 < env.length) /\ (∀ q ∈ (ovl env noP r).ptrs, q < env.length)) {t : Ty} {k : Kind} {ls ls' : List Leaf} {v : Value} {cells : List Value} {x y : t.D} {L : Places}
  (hv : ValC c (SS env noP tmps vs w cs bs) (.con k ls) v cells) (hty : typedAs ls t = true) (hnow : argNow env ls = some ls') (hx : asm t ls' = some (x, [])) (hM : mutOf env ls (leaves t y (fun _ => .at_ .dp) 0) = some L) : MutOk c env tmps w vs bs t cells ls x y L := by
 generalize hns : leaves t y (fun _ => .at_ .dp) 0 = ns at hM
 unfold mutOf at hM
 split at hM
 ·exact Ycq hlen hrel hno hv hty hnow hx hns hM
 ·rename_i hne
  rcases Ya4 hnow with rfl | ⟨e0, t0, x0, r, j, i, o, rfl⟩
  ·subst hns
   exact Yda hlen hrel hno hv hty hx hM
  ·exfalso
   have hlen1 : ns.length = 1 := by
    have h1 := congrArg List.length (Yk t y (fun _ => .at_ .dp) 0)
    have hty' : [Ty.slice e0 t0] = flat t := by simpa [typedAs] using hty
    rw [List.length_map, <- hty', hns] at h1
    exact h1
   obtain ⟨n, rfl⟩ := List.length_eq_one_iff.1 hlen1
   exact hne _ _ _ _ _ _ _ _ rfl rfl
theorem Y6y {qs : List (Nat × Nat)} {v : AV} (h : apart qs v = true) : (∀ q ∈ v.refs, q ∉ qs) /\ (∀ r ∈ v.ptrs, ∀ q ∈ qs, r ≠ q.1) := by
 simp only [apart, Bool.and_eq_true, List.all_eq_true, Bool.not_eq_true', Bool.and_eq_false_iff, beq_eq_false_iff_ne] at h
 refine ⟨fun q hq hm => ?_, fun r hr q hq => h.2 r hr q hq⟩
 have := h.1 q hq q hm
 rcases this with h | h <;> exact h rfl
theorem Ycr (hO : OrcOk P sig orc) {cl : Call} {f : FuncId} {extra : List AV} {ex : List Value} (hop : o.op = .call cl) (hdst : o.dst = some d) (hr : RE c env a.tmps w) (hd : d < env.length)
  (hrun : Enterable P f -> (execOp a.eval o).run P w = .ok (.enter f (cl.args.map (evT a.tmps) ++ ex.toArray)) w) (hex : ∀ vs cs bs, Rel c (SS env noP a.tmps vs w cs bs) -> ValCs c (SS env noP a.tmps vs w cs bs) extra ex)
  {sg : Sig} (hsg : sig f = some sg) (hbx : sg.box = none /\ sg.newb = none) (hm : sg.muts = true) (how : sg.own = false) (hK : callM caps orc (some d) f sg cl.args.toList extra env K = some r) (hn : Next c a K r env.length next) : o.wp P a w next Q := by
 unfold callM at hK
 split at hK
 ·rename_i t ps a0 as hps has
  split at hK
  ·rename_i k ls hrd
   simp only at hK
   split at hK
   ·rename_i hc
    obtain ⟨⟨hk, hty⟩, ⟨hl1, hl2⟩, hfl, hap⟩ := hc
    cases hnow : argNow env ls with
    | none => rw [hnow] at hK; simp at hK
    | some ls' =>
     rw [hnow] at hK
     simp only [Option.bind_some] at hK
     split at hK
     ·rename_i x hx
      split at hK
      ·simp at hK
      ·rename_i rvs hrv
       split at hK
       ·simp at hK
       ·rename_i q hq
        obtain ⟨z0, hres, hK⟩ := Option.bind_eq_some_iff.1 hK
        obtain ⟨hent, hspec⟩ := hO f sg _ q z0 hsg hq hres
        rw [hbx.1, hbx.2, hm, how] at hspec
        replace hspec : ∃ t x0 rest y ys, _ /\ _ /\ FnSpecMut P f sg.results t x0 rest y ys := hspec
        obtain ⟨t', x0, rest, y, ys, e1, e2, hspec⟩ := hspec
        simp only [List.cons.injEq, RV.val.injEq] at e1
        obtain ⟨⟨rfl, e1⟩, rfl⟩ := e1
        have e1 : x = x0 := eq_of_heq e1
        subst e1
        rw [e2] at hK
        simp only [dif_pos] at hK
        split at hK
        ·simp at hK
        ·rename_i L hM
         cases hra : resAV sg.results ys with
         | none => rw [hra] at hK; simp at hK
         | some av =>
          rw [hra] at hK
          simp only at hK
          obtain ⟨vs, hlen, cs, bs, hrel, hno⟩ := hr
          have hr : RE c env a.tmps w := ⟨vs, hlen, cs, bs, hrel, hno⟩
          obtain ⟨cells, hv⟩ := Yn hlen hrel (some t) a0
          rw [hrd] at hv
          obtain ⟨b0, hrep, hnd, hin, hafter⟩ := Ydc hlen hrel hno hv hty hnow hx hM
          have hval : evT a.tmps a0 = mkV t.isAgg cells := by
           obtain ⟨g1, _⟩ := hv
           subst hk
           unfold Ty.kind at g1
           unfold mkV
           split at g1
           ·rename_i ha
            rw [ha]; exact g1.1
           ·rename_i ha
            have ha : t.isAgg = false := by simpa using ha
            rw [ha, g1.1]; rfl
          generalize hvs : rdArgs env ps as ++ extra = avs at *
          have hargl : as.length <= ps.length := by rw [<- hl1, hl2]; omega
          have hvals : ValCs c (SS env noP a.tmps vs w cs bs) avs (as.map (evT a.tmps) ++ ex) := by
           rw [<- hvs]
           exact (Y3j hlen hrel hargl).1.append (hex vs cs bs hrel)
          let S : Nat -> Prop := fun b => RoS c (SS env noP a.tmps vs w cs bs) b \/ (∃ v ∈ avs, ∃ q ∈ v.refs, b ∈ bs q.1 (q.2 + 1)) \/ ∃ v ∈ avs, ∃ q ∈ v.ptrs, ∃ l, b ∈ bs q l
          have hrvr : RVRels S w rvs (as.map (evT a.tmps) ++ ex) :=
           Y7g hrel (fun b hb => .inl hb) hvals hrv (fun v hv q hq b hb => .inr (.inl ⟨v, hv, q, hq, hb⟩)) (fun v hv q hq l b hb => .inr (.inr ⟨v, hv, q, hq, l, hb⟩))
          have hS : ∀ b, S b -> b ∉ b0 := by
           intro b hb hb0
           obtain ⟨q, hq, hbq⟩ := hin b hb0
           rcases hb with hb | ⟨v, hv, q', hq', hb⟩ | ⟨v, hv, q', hq', l, hb⟩
           ·exact hb.1 _ _ hbq
           ·have := Y6y (List.all_eq_true.1 hap v hv)
            obtain ⟨h1, h2⟩ := hrel.disj _ _ _ _ _ hb hbq
            refine this.1 q' hq' ?_
            have : q' = q := Prod.ext h1 (by omega)
            rw [this]; exact hq
           ·have := Y6y (List.all_eq_true.1 hap v hv)
            exact this.2 q' hq' q hq (hrel.disj _ _ _ _ _ hb hbq).1
          have hb0 : ∀ b ∈ b0, c.base <= b := fun b hb => let ⟨q, _, h⟩ := hin b hb; (hrel.own _ _ _ h).1.1
          unfold Oper.wp
          rw [hrun hent]
          show Calls P f _ w _
          have hargs : cl.args.map (evT a.tmps) ++ ex.toArray = (mkV t.isAgg cells :: (as.map (evT a.tmps) ++ ex)).toArray := by
           rw [<- hval, show evT a.tmps a0 :: (as.map (evT a.tmps) ++ ex) = (cl.args.toList.map (evT a.tmps) ++ ex) by rw [has]; rfl]
           rw [<- List.append_toArray, <- List.map_toArray, Array.toArray_toList]
          rw [hargs]
          refine Calls.mono (hspec S w cells _ b0 c.base hrep hnd hb0 hrel.base hrvr hS) ?_
          rintro e w' ⟨chs, bsx, b1, rfl, hb, hsame, hrep', hnd1, hnew, hres'⟩
          show next (a.put o.dst (resVal sg.results chs)) w'
          rw [hdst]
          have hRP := hafter w' b1 hb hsame hrep' hnd1 hnew
          obtain ⟨k', ls2, rfl, h1, h2, h3, bds, h4, h5, h6⟩ := Y53 hres' hra
          have hflat := Yb4 hfl hra
          have hmode := Y4l hra
          have hsl : (syncs L env).length = env.length := Y1y _ _
          have hadd := hRP.addVal (n := (syncs L env).length) (Nat.le_refl _) rfl (av := .con k' ls2) (v := resVal sg.results chs) (fun cs' bs' hrel' => by
           refine ⟨chs.flatten, h1.bare rfl, h2, fun l lf u hl hu => ?_⟩
           rw [Y1] at hl
           obtain ⟨m, hm', hr'⟩ := h6 l lf u hl hu
           have hf := hflat lf (List.mem_of_getElem? hl)
           have hmd := hmode lf (List.mem_of_getElem? hl)
           obtain ⟨lt, lx, lm⟩ := lf
           simp only at hm' hr'
           subst hm'
           exact ⟨(Rep.flat hf hr').2, by cases m <;> first | trivial | exact absurd rfl (hmd _)⟩) (by
           have := Yg (k := k') h3
           rw [this.1, this.2]
           exact ⟨by simp, by simp⟩)
          have := RE.commit hadd (by rw [hsl]; exact hd)
          rw [Y0] at this
          exact hn _ _ _ hK this (by rw [Y1r, hsl]) rfl
     ·simp at hK
   ·simp at hK
  ·simp at hK
 ·simp at hK
end
end Go.FP

namespace Go.FP
open Go.RowKit
section
variable {P : Program} {o : Oper} {a : Act} {w : World} {R : Type} {K : Env -> Option R} {r : R} {next : Act -> World -> Prop} {Q : Exit -> Act -> World -> Prop} {c : Cx} {d : Nat} {T : Tab} {env : Env} {sig : FuncId -> Option Sig} {caps : FuncId -> List Ty} {orc : Orc}
theorem RP.handed {tmps : Array Value} {ps : Nat -> AV} {vs : Nat -> Value} (hlen : env.length = tmps.size) {cs : Nat -> List Value} {bs : Nat -> Nat -> List Nat} (hr : Rel c (SS env ps tmps vs w cs bs)) (hno : ∀ r, (∀ q ∈ (ovl env ps r).refs, q.1 < env.length) /\ (∀ q ∈ (ovl env ps r).ptrs, q < env.length)) {n : Nat} (hn : env.length <= n) {t : Ty} {x : t.D} (hp : ps n = .con .val [⟨t, x, .at_ .dp⟩]) :
  Rep (fun _ => False) w t .dp [vs n] x (bs n 1) /\ ∀ (w' : World) (v' : Value) (y : t.D) (b1 : List Nat), Below c.base w w' -> (∀ b, b < w.heap.size -> b ∉ bs n 1 -> w'.heap[b]? = w.heap[b]?) -> Rep (fun _ => False) w' t .dp [v'] y b1 -> b1.Nodup -> (∀ b ∈ b1, b ∈ bs n 1 \/ w.heap.size <= b) ->
   RP c env tmps w' (upd ps n (.con .val [⟨t, y, .at_ .dp⟩])) (upd vs n v') := by
 obtain ⟨hrep, hb0, hcn⟩ := Y3k hlen hr hn hp
 refine ⟨Rep.dpS hrep, fun w' v' y b1 hb hh hrep' hnd hin => ?_⟩
 have e : upd (upd ps n .undef) n (.con .val [⟨t, y, .at_ .dp⟩]) = upd ps n (.con .val [⟨t, y, .at_ .dp⟩]) := by
  funext r; simp only [upd]; split <;> rfl
 have := RP.reformAt hlen hr hno (n := n) (m := n) hn hn (av := .con .val [⟨t, y, .at_ .dp⟩]) (v := v') (w' := w') ⟨by simp [AV.refs, Leaf.refs], by simp [AV.ptrs]⟩ hb (fun b hb' hne => hh b hb' (hne 1)) [v'] (fun l => if l = 1 then b1 else []) ?_ ?_ ?_ ?_
 ·rw [e] at this; exact this
 ·intro l b hb'
  by_cases hl : l = 1
  ·subst hl
   rw [if_pos rfl] at hb'
   refine ⟨Rep.lt hrep' b hb', ?_⟩
   rcases hin b hb' with h | h
   ·exact .inr ⟨1, .inl h⟩
   ·exact .inl h
  ·rw [if_neg hl] at hb'; simp at hb'
 ·intro l l' b h1 h2
  by_cases hl : l = 1
  ·by_cases hl' : l' = 1
   ·rw [hl, hl']
   ·rw [if_neg hl'] at h2; simp at h2
  ·rw [if_neg hl] at h1; simp at h1
 ·intro l
  by_cases hl : l = 1
  ·rw [if_pos hl]; exact hnd
  ·rw [if_neg hl]; exact List.nodup_nil
 ·intro s' hk
  have ebs : s'.bs n = fun l => if l = 1 then b1 else [] := Y0 _ _ _
  have ecs : s'.cs n = [v'] := Y0 _ _ _
  refine ⟨⟨ecs, by rw [ebs]; rfl⟩, by rw [ecs]; rfl, fun l hl => ?_, fun l lf u hl hu => ?_⟩
  ·rw [ebs]
   simp only [List.length_singleton] at hl
   exact if_neg (by omega)
  ·rw [ecs] at hu
   have hl0 : l = 0 := by
    rw [Y1] at hl
    have := (List.getElem?_eq_some_iff.1 hl).1
    simpa using this
   subst hl0
   obtain rfl : lf = ⟨t, y, .at_ .dp⟩ := by simpa [leafAt] using hl.symm
   obtain rfl : u = v' := by simpa using hu.symm
   refine LeafRel.of_rep trivial ?_
   rw [ebs]
   exact Rep.dpS hrep'
theorem Ycs (hO : OrcOk P sig orc) {cl : Call} {f : FuncId} {extra : List AV} {ex : List Value} (hop : o.op = .call cl) (hdst : o.dst = some d) (hr : RE c env a.tmps w) (hd : d < env.length)
  (hrun : Enterable P f -> (execOp a.eval o).run P w = .ok (.enter f (cl.args.map (evT a.tmps) ++ ex.toArray)) w) (hex : ∀ vs cs bs, Rel c (SS env noP a.tmps vs w cs bs) -> ValCs c (SS env noP a.tmps vs w cs bs) extra ex)
  {sg : Sig} (hsg : sig f = some sg) (hbx : sg.box = none /\ sg.newb = none) (hm : sg.muts = true) (how : sg.own = true) (hK : callO caps orc (some d) f sg cl.args.toList extra env K = some r) (hn : Next c a K r env.length next) : o.wp P a w next Q := by simp [callO] at hK
end
end Go.FP

namespace Go.FP
open Go.RowKit
theorem Y92 {S : Nat -> Prop} {w : World} : ∀ {xs : List Int} {cells : List Value} {b : List Nat}, El (Rep S w (.int .u8) .ro) 1 cells xs b -> cells = xs.map (Value.int .u8)
 | [], cells, b, h => h.1
 | x :: xs, cells, b, ⟨c, cs, b0, b1, e, _, _, h1, h2⟩ => by
  rw [e, h1.1, Y92 h2]; rfl
section
variable {P : Program} {o : Oper} {a : Act} {w : World} {R : Type} {K : Env -> Option R} {r : R} {next : Act -> World -> Prop} {Q : Exit -> Act -> World -> Prop} {c : Cx} {d : Nat} {T : Tab} {env : Env}
theorem Yct (hT : TabOk P T) {s dt : TypeId} {x : Operand} {b : ByteArray} (hop : o.op = .convert s dt x) (hdst : o.dst = some d) (hr : RE c env a.tmps w) (hd : d < env.length) (hb : bytesOf T s dt (fun ty => rd ty env x) = some b)
  (hK : K (setD (some d) env (vStr b)) = some r) (hn : Next c a K r env.length next) : o.wp P a w next Q := by
 unfold bytesOf at hb
 split at hb
 ·rename_i e hs ht
  split at hb
  ·rename_i he
   split at hb
   ·rename_i lx hrd
    have hrd : rd (some (.slice e (.int .u8))) env x = .con .val [lx] := hrd
    split at hb
    ·rename_i xs has
     split at hb
     ·rename_i hl
      obtain rfl := Option.some.inj hb
      have hr0 := hr
      obtain ⟨vs, h0⟩ := hr0
      obtain ⟨cs, bs, h1, _⟩ := h0.rel
      obtain ⟨cells, hv⟩ := Yn h0.len h1 (some (.slice e (.int .u8))) x
      rw [hrd] at hv
      obtain ⟨S, hS⟩ := Y2n hv hl
      rw [Leaf.as_eq has] at hS
      obtain ⟨v, ch, b0, b1, e1, _, hel, _, A, cp, e2, hlc, hz, hc⟩ := hS
      have e1 : evT a.tmps x = v := by simpa using e1
      have hch := Y92 hel
      refine finV hr hdst (v := .string (strOfNums xs)) ?_ hd (fun vs cs bs _ => Y7f _ _ _) Y8k hK hn
      have key : (Go.convert s dt (.slice A xs.length cp)).run P w = .ok (.string (strOfNums xs)) w := by
       have hs' := TabOk.slice hT hs
       have he' := TabOk.int hT he
       have ht' := TabOk.str hT ht
       cases A with
       | none =>
        have hn0 : xs = [] := by
         have := hz rfl
         have hlc : xs.length <= cp := hlc
         exact List.length_eq_zero_iff.1 (by omega)
        subst hn0
        exact run_convert_bytes_nil w s e hs' he' 0 cp dt ht'
       | some A =>
        have hl : (loadCells A xs.length).run P w = .ok (xs.map (Value.int .u8)).toArray w := by
         have := run_loadCells_list (P := P) w A (xs.map (Value.int .u8)) (fun j u hj => by
          rw [<- hch] at hj
          obtain ⟨a', h1, _, h2⟩ := hc j u hj
          cases h1
          exact h2)
         simpa using this
        rw [run_convert_bytes_string w s dt e _ _ cp hs' he' ht', run_bytesToString w _ xs.length cp xs hl, foldl_push_bytes]
        simp [strOfNums, ByteArray.empty, ByteArray.emptyWithCapacity]
        rfl
      have key2 : (Go.convert s dt (evT a.tmps x)).run P w = .ok (.string (strOfNums xs)) w := by rw [e1, e2]; exact key
      simp [execOp, hop, Y6, key2]
     ·simp at hb
    ·simp at hb
   ·simp at hb
  ·simp at hb
 ·simp at hb
end
end Go.FP

namespace Go.FP
open Go.RowKit
section
variable {P : Program} {o : Oper} {a : Act} {w : World} {Q : Exit -> Act -> World -> Prop} {c : Cx} {d : Nat} {T : Tab} {env : Env} {caps : FuncId -> List Ty}
theorem Y8a {b : Bool} {env' : Env} (h : selStep T caps o env = some (b, env')) : o.guard = none := by
 unfold selStep at h
 split at h
 ·assumption
 ·cases h
theorem finS {next : Act -> World -> Prop} {env1 env' : Env} {w' : World} {av : AV} {v : Value} {vs : Nat -> Value} (hdst : o.dst = some d) (hrun : (execOp a.eval o).run P w = .ok (.value v) w') (hd : d < env1.length) (hN : env1.length = env.length)
  (h : RP c env1 a.tmps w' (upd noP env1.length av) vs) (hv : vs env1.length = v) (he : setD (some d) env1 av = env') (hn : ∀ a' w', RE c env' a'.tmps w' -> env'.length = env.length -> a'.defers = a.defers -> next a' w') : o.wp P a w next Q :=
 fin (K := some) (r := env') hdst hrun hd hN h hv (by rw [he]) (fun e a' w' he h1 h2 h3 => by cases he; exact hn a' w' h1 h2 h3)
theorem RE.moveSel {tmps : Array Value} (hr : RE c env tmps w) {s r j : Nat} {e e2 : TypeId} {t : Ty} {ix : List Int} {x : List (List t.D)} (hg : get env s = .sel r j e e2 t ix x) :
  ∃ vs cs bs, s < env.length /\ env.length = tmps.size /\ vs env.length = tmps.getD s undef /\ Rel c (SS (put env s .undef) (upd noP env.length (.sel r j e e2 t ix x)) tmps vs w cs bs) /\ ∀ k, (∀ q ∈ (ovl (put env s .undef) (upd noP env.length (.sel r j e e2 t ix x)) k).refs, q.1 < env.length) /\ (∀ q ∈ (ovl (put env s .undef) (upd noP env.length (.sel r j e e2 t ix x)) k).ptrs, q < env.length) := by
 obtain ⟨vs, hlen, cs, bs, hrel, hno⟩ := hr
 have hsl : s < env.length := by
  apply Decidable.byContradiction
  intro hn'
  rw [Y16 env s (Nat.le_of_not_lt hn')] at hg
  cases hg
 have es : (SS env noP tmps vs w cs bs).env s = .sel r j e e2 t ix x := by show ovl env noP s = _; rw [Y7 hsl]; exact hg
 have et : (SS env noP tmps vs w cs bs).tm s = tmps.getD s undef := if_pos (hlen ▸ hsl)
 have hq0 : ((SS env noP tmps vs w cs bs).env env.length).quiet = true := by show (ovl env noP env.length).quiet = true; rw [Yf (Nat.le_refl _)]; rfl
 have hmv := hrel.move (s0 := s) (d := env.length) (Nat.ne_of_lt hsl) hq0 (fun p => by
  obtain ⟨k1, k2⟩ := (hrel.av p).refs_own
  refine ⟨fun q hq' e => ?_, fun q hq' e => ?_⟩
  ·obtain ⟨lf, u, o1, _⟩ := k1 q hq'
   rw [e, es] at o1
   simp [AV.leaf?] at o1
  ·obtain ⟨off, vv, e', ls, B', o1, _⟩ := k2 q hq'
   rw [e, es] at o1
   simp at o1)
 rw [es, et] at hmv
 have hlen1 : (put env s .undef).length = env.length := Y5 _ _ _
 have hrl := (hno s).1 (r, j) (by rw [Y7 hsl, hg]; simp [AV.refs])
 refine ⟨upd vs env.length (tmps.getD s undef), _, _, hsl, hlen, Y0 _ _ _, Rel.congr hmv (by rw [Ye (Nat.le_of_eq hlen1), Yr hsl]) (Yy (Nat.le_of_eq hlen.symm) _).symm, fun k => ?_⟩
 rw [Ye (Nat.le_of_eq hlen1), Yr hsl]
 by_cases hk : k = env.length
 ·subst hk
  rw [Y0]
  exact ⟨fun q hq' => by simp only [AV.refs, List.mem_singleton] at hq'; rw [hq']; exact hrl, by simp [AV.ptrs]⟩
 ·rw [Y2 _ _ hk]
  by_cases hk2 : k = s
  ·subst hk2; rw [Y0]; exact ⟨by simp [AV.refs], by simp [AV.ptrs]⟩
  ·rw [Y2 _ _ hk2]; exact hno k
theorem Y58 {x : Operand} {s : Nat} {v : AV} (h : selOf env x = some (s, v)) : x = .tmp s /\ get env s = v /\ ∃ r j e e2 t ix y, v = .sel r j e e2 t ix y := by
 unfold selOf at h
 split at h
 ·split at h
  ·rename_i hg
   simp only [Option.some.injEq, Prod.mk.injEq] at h
   obtain ⟨rfl, rfl⟩ := h
   exact ⟨rfl, hg, _, _, _, _, _, _, _, rfl⟩
  ·cases h
 ·cases h
theorem Y93 (hr : RE c env a.tmps w) {x : Operand} {s : Nat} {v : AV} {env' : Env} (hop : o.op = .move x \/ o.op = .assign x) (hdst : o.dst = some d) (hd : d < env.length) (hs : selOf env x = some (s, v)) (he : setD (some d) (put env s .undef) v = env') {next : Act -> World -> Prop}
  (hn : ∀ a' w', RE c env' a'.tmps w' -> env'.length = env.length -> a'.defers = a.defers -> next a' w') : o.wp P a w next Q := by
 obtain ⟨rfl, hg, r, j, e, e2, t, ix, y, rfl⟩ := Y58 hs
 obtain ⟨vs, cs, bs, hsl, hlen, hv, hrel, hno⟩ := hr.moveSel hg
 have hlen1 : (put env s .undef).length = env.length := Y5 _ _ _
 refine finS hdst (v := a.tmps.getD s undef) (w' := w) ?_ (by rw [hlen1]; exact hd) hlen1 ⟨by rw [hlen1]; exact hlen, cs, bs, by rw [hlen1]; exact hrel, fun k => by rw [hlen1]; exact hno k⟩ (by rw [hlen1]; exact hv) he hn
 rcases hop with hop | hop <;> simp [execOp, hop, Y6, evT]
theorem WrRel0.anchor {s : St} {ad : Addr} {r j : Nat} {i : Int} {o : Nat} (h : WrRel0 c s ad r j [] i o) : WrRel0 c s ad r j [(0, 0)] 0 0 := by
 obtain ⟨h1, lf, u, h2, _⟩ := h
 exact ⟨h1, lf, u, h2, fun e => by cases e⟩
theorem Yby (hT : TabOk P T) (hr : RE c env a.tmps w) {t : TypeId} {te : TE} {n : Nat} {parts : Array (Nat × Operand)} {v : AV} {env' : Env} (hop : o.op = .buildSlice t n parts) (hdst : o.dst = some d) (hd : d < env.length) (ht : elemAt T t = some te) (hs : selPart env te n parts.toList = some v) (he : setD (some d) env v = env') {next : Act -> World -> Prop}
  (hn : ∀ a' w', RE c env' a'.tmps w' -> env'.length = env.length -> a'.defers = a.defers -> next a' w') : o.wp P a w next Q := by
 unfold selPart at hs
 split at hs
 ·rename_i p hparts
  split at hs
  ·rename_i e2 t' y r j i hg
   split at hs
   ·rename_i e' te' xs' hl
    split at hs
    ·rename_i hc
     obtain ⟨rfl, hte, hf, rfl⟩ := hc
     simp only [Option.some.injEq] at hs
     subst hs
     obtain ⟨hty, hund, htid, hsz, hby, i0, hi0, hi1, hi2, hi3⟩ := TabOk.elem hT ht
     have hs1 : te.ty.sz = 1 := by rw [hte]; rfl
     obtain ⟨vs, hlen, cs, bs, hrel, hno⟩ := hr
     have hpl : p < env.length := Decidable.byContradiction fun hh => by rw [Y16 env p (Nat.le_of_not_lt hh)] at hg; cases hg
     have hrl : r < env.length := Y1b hl
     -- the row that is taken
     have hav := hrel.av p
     have es : (SS env noP a.tmps vs w cs bs).env p = .con .val [⟨.slice e2 t', y, .bor r j [(i, 0)]⟩] := by show ovl env noP p = _; rw [Y7 hpl]; exact hg
     have et : (SS env noP a.tmps vs w cs bs).tm p = evT a.tmps (.tmp p) := if_pos (hlen ▸ hpl)
     rw [es, et] at hav
     obtain ⟨⟨hcs, _⟩, _, _, hlf⟩ := hav
     have hcs : (cs p) = [evT a.tmps (.tmp p)] := hcs
     obtain ⟨_, hbor⟩ : _ /\ BorRel c (SS env noP a.tmps vs w cs bs) (evT a.tmps (.tmp p)) ⟨.slice e2 t', y, .bor r j [(i, 0)]⟩ r j [(i, 0)] := hlf 0 _ _ rfl (by show (cs p)[0]? = _; rw [hcs]; rfl)
     generalize hu : evT a.tmps (.tmp p) = u at hbor
     have hone : ∃ A l cp, u = .slice A l cp := by
      obtain ⟨vv, _, _, _, e1, _, _, e4⟩ := hbor.1
      obtain rfl : u = vv := by simpa using e1
      obtain ⟨A, cp, e5, _⟩ := e4.slice
      exact ⟨A, _, cp, e5⟩
     obtain ⟨ad, hwr, hcell⟩ := hbor.2.2 i 0 rfl
     let w' := w.alloc (.cells #[u] te.id (0, 0))
     let v' : Value := .slice (some ⟨w.heap.size, 0, none⟩) 1 1
     have hbel : Below w.heap.size w w' := (Below.refl _ _).alloc (Nat.le_refl _) _
     have hq0 : ((SS env noP a.tmps vs w cs bs).env env.length).quiet = true := by show (ovl env noP env.length).quiet = true; rw [Yf (Nat.le_refl _)]; rfl
     have hheap : w'.heap[w.heap.size]? = some (.cells #[u] te.id (0, 0)) := by show (w.heap.push _)[w.heap.size]? = _; simp
     have hres := hrel.setNew hq0 hbel (.sel r j te.id e2 t' [i] [y]) v' [] (fun l => if l = 0 then [w.heap.size] else [])
      (fun l b hb => by
       split at hb
       ·simp only [List.mem_singleton] at hb; subst hb; exact ⟨Nat.le_refl _, by show w.heap.size < (w.heap.push _).size; simp⟩
       ·simp at hb)
      (fun l l' b h1 h2 => by
       split at h1
       ·split at h2
        ·omega
        ·simp at h2
       ·simp at h1)
      (fun l => by split <;> simp)
      (by
       intro s' hkp hpl' _
       have eb : s'.bs env.length = fun l => if l = 0 then [w.heap.size] else [] := Y0 _ _ _
       obtain ⟨_, lf, ul, ho, _⟩ := id hwr
       have hsp := hpl' r j _ _ ho
       refine ⟨⟨fun k => by rw [eb]; exact if_neg (by omega), by rw [eb]; rfl⟩, ⟨ad, (hwr.keep hkp hsp).2.anchor⟩, [u], ⟨rfl, .inr ⟨w.heap.size, 1, #[u], rfl, Nat.zero_le _, hheap, Nat.le_refl _, by decide, rfl, rfl⟩⟩, rfl, by simp, fun k i' y' h1 h2 => ?_⟩
       cases k with
       | zero =>
        simp only [List.getElem?_cons_zero, Option.some.injEq] at h1 h2
        subst h1; subst h2
        exact ⟨u, rfl, hbor.keep hkp hsp⟩
       | succ k => simp at h1)
     have hRP : RP c env a.tmps w' (upd noP env.length (.sel r j te.id e2 t' [i] [y])) (upd vs env.length v') := by
      refine ⟨hlen, _, _, Rel.congr hres (Ye (Nat.le_refl _) _).symm (Yy (Nat.le_of_eq hlen.symm) v').symm, fun k => ?_⟩
      rw [Ye (Nat.le_refl _)]
      by_cases hk : k = env.length
      ·subst hk
       rw [Y0]
       exact ⟨fun q hq' => by simp only [AV.refs, List.mem_singleton] at hq'; rw [hq']; exact hrl, by simp [AV.ptrs]⟩
      ·rw [Y2 _ _ hk]; exact hno k
     refine finS hdst (v := v') (w' := w') ?_ hd rfl hRP (Y0 _ _ _) he hn
     have hsize := TabOk.sizeOf hT htid
     have hzero := TabOk.zero hT htid
     obtain ⟨A, l, cp, rfl⟩ := hone
     have hmap : List.map (fun x => (x.1, evT a.tmps x.2)) parts.toList = [(0, .slice A l cp)] := by rw [hparts, <- hu]; rfl
     let z := zeroVal te.ty
     obtain ⟨c0, hC⟩ : ∃ c0, ((Array.range (1 * te.ty.sz)).map fun x => z.cells[x % z.cells.size]!) = #[c0] := by
      rw [hs1]
      exact Array.size_eq_one_iff.1 (by simp)
     have hfill : Instr.fill (fun i => some (i * te.ty.sz, te.ty.sz)) ((Array.range (1 * te.ty.sz)).map fun x => z.cells[x % z.cells.size]!) [(0, .slice A l cp)] = some #[.slice A l cp] := by
      rw [hC, hs1]
      simp [Instr.fill, Value.cells]
     have hz0 : ¬ 1 * te.ty.sz = 0 := by rw [hs1]; decide
     have hlim : ¬ 2 ^ 24 < 1 * te.ty.sz := by rw [hs1]; decide
     simp only [Nat.one_mul] at hfill hz0 hlim
     simp [execOp, hop, Instr.buildSlice, run_underlying hund, hsize, hzero, hz0, hlim, hmap, hfill, newRow, newObj, Sem.run, Y6, z, w', v']
     try rfl
    ·cases hs
   ·cases hs
  ·cases hs
 ·cases hs
theorem Y59 (hT : TabOk P T) {env1 : Env} {tmps : Array Value} {vs : Nat -> Value} {cs : Nat -> List Value} {bs : Nat -> Nat -> List Nat} {av0 : AV} (hlen : env1.length = tmps.size) (hrel : Rel c (SS env1 (upd noP env1.length av0) tmps vs w cs bs))
  (hno : ∀ k, (∀ q ∈ (ovl env1 (upd noP env1.length av0) k).refs, q.1 < env1.length) /\ (∀ q ∈ (ovl env1 (upd noP env1.length av0) k).ptrs, q < env1.length)) {t0 : TypeId} {te : TE} (ht : elemAt T t0 = some te) (ty : TypeId) {e2 : TypeId} {t : Ty} (hte : te.ty = .slice e2 t)
  {ix : List Int} {x : List (List t.D)} {xs : List Value} (hown : w.ownsRow 0 te.id 1 (vs env1.length) x.length xs) (hb1 : ∀ l b, b ∈ bs env1.length l -> (vs env1.length).ownBlock = some b) (hb2 : ∀ b, (vs env1.length).ownBlock = some b -> ∃ l, b ∈ bs env1.length l)
  (hixl : ix.length = x.length) (hso : ix.Pairwise (· < ·)) {r j tx : Nat} {i : Int} {y : List t.D} (hx : ∀ (k : Nat) (i : Int) (y : List t.D), ix[k]? = some i -> x[k]? = some y -> ∃ u, xs[k]? = some u /\ BorRel c (SS env1 (upd noP env1.length av0) tmps vs w cs bs) u ⟨.slice e2 t, y, .bor r j [(i, 0)]⟩ r j [(i, 0)])
  (htx : get env1 tx = .sel r j te.id e2 t [i] [y]) (hlt : ∀ k ∈ ix, k < i) (hbd : (x.length + 1) * te.bytes <= 140737488355328) :
  ∃ v' w', (Builtin.append_ #[t0, t0] ty #[vs env1.length, tmps.getD tx undef]).run P w = .ok v' w' /\ RP c env1 tmps w' (upd noP env1.length (.sel r j te.id e2 t (ix ++ [i]) (x ++ [y]))) (upd vs env1.length v') := by
 obtain ⟨hty, hund, htid, hsz, hby, i0, hi0, hi1, hi2, hi3⟩ := TabOk.elem hT ht
 have hs1 : te.ty.sz = 1 := by rw [hte]; rfl
 have htxl : tx < env1.length := Decidable.byContradiction fun hh => by rw [Y16 env1 tx (Nat.le_of_not_lt hh)] at htx; cases htx
 have hav := hrel.av tx
 have es : (SS env1 (upd noP env1.length av0) tmps vs w cs bs).env tx = .sel r j te.id e2 t [i] [y] := by show ovl env1 _ tx = _; rw [Y7 htxl]; exact htx
 have et : (SS env1 (upd noP env1.length av0) tmps vs w cs bs).tm tx = tmps.getD tx undef := if_pos (hlen ▸ htxl)
 rw [es, et] at hav
 obtain ⟨_, ⟨ad0, hanch⟩, xsx, hownx, _, _, hbx⟩ := hav
 obtain ⟨u, hu0, hbu⟩ := hbx 0 i y rfl rfl
 have hownx : w.ownsRow 0 te.id 1 (tmps.getD tx undef) 1 xsx := hownx
 obtain rfl : xsx = [u] := by
  obtain ⟨u1, rfl⟩ := List.length_eq_one_iff.1 (show xsx.length = 1 from by simpa using hownx.1)
  simpa using hu0
 have hrl : r < env1.length := by
  have := (hno tx).1 (r, j) (by rw [Y7 htxl, htx]; simp [AV.refs])
  exact this
 have huone : u.oneCell' = true := by
  exact Rep.one hbu.1 u (by simp)
 obtain ⟨A, cp, ex, hcp, hz, hcx⟩ := Y2b hownx
 obtain ⟨ad, rfl, hadb, hadc⟩ := hcx 0 u rfl
 have hz' : (zeroVal te.ty).cells.size = te.ty.sz := by rw [<- Array.length_toList, Y1e, Y14]
 have h63 : x.length + 1 <= maxLen := by
  have : (x.length + 1) * 1 <= (x.length + 1) * te.bytes := Nat.mul_le_mul_left _ hby
  simp only [maxLen]
  omega
 obtain ⟨v', w', hr1, hown', hgrow, _, hwhere⟩ := run_append_own_at (P := P) w 0 t0 ty te.id i0 (zeroVal te.ty) te.ty.sz te.bytes hund hi0 hi3 hi1 hi2 hz' hsz (vs env1.length) x.length xs (by rw [hs1]; exact hown) ad 1 cp [u] (by rw [hs1]; rfl)
  (fun k u' hk => by
   cases k with
   | zero => simp only [List.getElem?_cons_zero, Option.some.injEq] at hk; subst hk; exact hadc
   | succ k => simp at hk) (fun u' hu' => by rw [List.mem_singleton.1 hu']; exact huone) h63 hbd (Nat.zero_le _)
 rw [hs1] at hown'
 refine ⟨v', w', by rw [ex]; exact hr1, ?_⟩
 have hmine : ∀ b, (vs env1.length).ownBlock = some b -> c.base <= b /\ b < w.heap.size := fun b hb => by
  obtain ⟨l, hl⟩ := hb2 b hb
  have := hrel.own env1.length l b hl
  exact ⟨this.1.1, this.2⟩
 have hkeep : ∀ b, b < w.heap.size -> (∀ l, b ∉ bs env1.length l) -> w'.heap[b]? = w.heap[b]? := fun b hb hne => hgrow.block b hb (fun e => by
  obtain ⟨l, hl⟩ := hb2 b e.symm
  exact hne l hl)
 have hbelow : Below c.base w w' := ⟨hgrow.os, hgrow.tape, hgrow.output, hgrow.size, fun k hk => hgrow.block k (Nat.lt_of_lt_of_le hk hrel.base) (fun e => by
  have := (hmine k e.symm).1
  omega)⟩
 have hnr : ∀ k, (∀ q ∈ (ovl env1 (upd noP env1.length av0) k).refs, q.1 ≠ env1.length /\ q.1 ≠ env1.length) /\ (∀ q ∈ (ovl env1 (upd noP env1.length av0) k).ptrs, q ≠ env1.length /\ q ≠ env1.length) := fun k =>
  ⟨fun q hq => by have := (hno k).1 q hq; exact ⟨Nat.ne_of_lt this, Nat.ne_of_lt this⟩, fun q hq => by have := (hno k).2 q hq; exact ⟨Nat.ne_of_lt this, Nat.ne_of_lt this⟩⟩
 have hres := hrel.reform (n := env1.length) (m := env1.length) hnr hbelow hkeep (.sel r j te.id e2 t (ix ++ [i]) (x ++ [y])) v' [] (fun l => if l = 0 then v'.ownBlock.toList else [])
  (fun l b hb => by
   split at hb
   ·have hb := Ya.1 hb
    refine ⟨(Y1l hown' b hb).2, ?_⟩
    rcases hwhere with hw | hw
    ·rw [hw] at hb
     obtain ⟨l', hl'⟩ := hb2 b hb
     exact .inr ⟨l', .inl hl'⟩
    ·rw [hw] at hb
     have hbe : b = w.heap.size := by simpa using hb.symm
     exact .inl (Nat.le_of_eq hbe.symm)
   ·simp at hb)
  (fun l l' b h1 h2 => by
   split at h1
   ·split at h2
    ·omega
    ·simp at h2
   ·simp at h1)
  (fun l => by
   split
   ·cases v'.ownBlock <;> simp
   ·simp)
  (by
   intro s' hkp
   have hrN : r ≠ env1.length := Nat.ne_of_lt hrl
   have eb : s'.bs env1.length = fun l => if l = 0 then v'.ownBlock.toList else [] := Y0 _ _ _
   have er : s'.env r = ovl env1 (upd noP env1.length av0) r := by show upd (upd _ _ _) _ _ r = _; rw [Y2 _ _ hrN, Y2 _ _ hrN]
   have ec : s'.cs r = cs r := Y2 _ _ hrN
   have ebr : s'.bs r = bs r := by show upd (upd _ _ _) _ _ r = _; rw [Y2 _ _ hrN, Y2 _ _ hrN]
   have hsp : SamePl (SS env1 (upd noP env1.length av0) tmps vs w cs bs) s' r j := by
    refine ⟨fun lf u' ⟨o1, o2, o3⟩ => ⟨by rw [er]; exact o1, o2, by rw [ec]; exact o3⟩, by rw [ebr], fun b hb => ?_⟩
    refine hkeep b (hrel.own r (j + 1) b hb).2 (fun l hl => ?_)
    exact hrN (hrel.disj r (j + 1) env1.length l b hb hl).1
   refine ⟨⟨fun k => by rw [eb]; exact if_neg (by omega), by rw [eb]; rfl⟩, ⟨ad0, (hanch.keep hkp hsp).2⟩, xs ++ [u], by simpa using hown', by simp [hixl], ?_, fun k i' y' h1 h2 => ?_⟩
   ·rw [List.pairwise_append]
    exact ⟨hso, List.pairwise_singleton _ _, fun p hp q hq => by rw [List.mem_singleton.1 hq]; exact hlt p hp⟩
   ·have hxl : xs.length = x.length := by simpa using hown.1
    by_cases hk : k < x.length
    ·rw [List.getElem?_append_left (by omega)] at h1
     rw [List.getElem?_append_left hk] at h2
     obtain ⟨u', hu', hb'⟩ := hx k i' y' h1 h2
     exact ⟨u', by rw [List.getElem?_append_left (by omega)]; exact hu', hb'.keep hkp hsp⟩
    ·rw [List.getElem?_append_right (by omega)] at h1 h2
     have hk0 : k - x.length = 0 := by
      rcases Nat.eq_zero_or_pos (k - x.length) with h | h
      ·exact h
      ·rw [List.getElem?_eq_none (by simp; omega)] at h2; cases h2
     rw [hk0] at h2
     rw [show k - ix.length = 0 by omega] at h1
     simp only [List.getElem?_cons_zero, Option.some.injEq] at h1 h2
     subst h1; subst h2
     exact ⟨u, by rw [List.getElem?_append_right (by omega), show k - xs.length = 0 by omega]; rfl, hbu.keep hkp hsp⟩)
 refine ⟨hlen, _, _, Rel.congr hres ?_ (Yy (Nat.le_of_eq hlen.symm) v').symm, fun k => ?_⟩
 ·funext k
  by_cases hk : k = env1.length
  ·subst hk; rw [Y0]; show _ = ovl env1 _ env1.length; rw [Yf (Nat.le_refl _), Y0]
  ·rw [Y2 _ _ hk, Y2 _ _ hk]
   show ovl env1 _ k = ovl env1 _ k
   by_cases hk2 : k < env1.length
   ·rw [Y7 hk2, Y7 hk2]
   ·rw [Yf (Nat.le_of_not_lt hk2), Yf (Nat.le_of_not_lt hk2), Y2 _ _ hk, Y2 _ _ hk]
 ·by_cases hk : k = env1.length
  ·subst hk
   rw [Yf (Nat.le_refl _), Y0]
   exact ⟨fun q hq' => by simp only [AV.refs, List.mem_singleton] at hq'; rw [hq']; exact hrl, by simp [AV.ptrs]⟩
  ·have := hno k
   by_cases hk2 : k < env1.length
   ·rw [Y7 hk2] at this ⊢; exact this
   ·rw [Yf (Nat.le_of_not_lt hk2), Y2 _ _ hk] at this ⊢; exact this
theorem Yb5 (hT : TabOk P T) (hr : RE c env a.tmps w) {cl : Call} {s x : Operand} {t0 : TypeId} {te : TE} {tx : Nat} {vx : AV} {env' : Env} (hop : o.op = .call cl) (hc : cl.callee = .builtin .append) (hargs : cl.args.toList = [s, x]) (htys : cl.argTypes.toList = [t0, t0]) (hdst : o.dst = some d) (hd : d < env.length) (ht : elemAt T t0 = some te) (hsx : selOf env x = some (tx, vx)) (hs : appendSel d te s tx env = some (true, env')) {next : Act -> World -> Prop}
  (hn : ∀ a' w', RE c env' a'.tmps w' -> env'.length = env.length -> a'.defers = a.defers -> next a' w') : o.wp P a w next Q := by
 obtain ⟨rfl, _, _⟩ := Y58 hsx
 have hargs' : cl.args = #[s, .tmp tx] := by rw [<- Array.toArray_toList (xs := cl.args), hargs]
 have htys' : cl.argTypes = #[t0, t0] := by rw [<- Array.toArray_toList (xs := cl.argTypes), htys]
 have hrun : ∀ (sv : Value) (v' : Value) (w' : World), evT a.tmps s = sv -> (Builtin.append_ #[t0, t0] o.type #[sv, a.tmps.getD tx undef]).run P w = .ok v' w' -> (execOp a.eval o).run P w = .ok (.value v') w' := by
  rintro sv v' w' rfl q1
  have q1 : (Builtin.append_ #[t0, t0] o.type #[evT a.tmps s, evT a.tmps (.tmp tx)]).run P w = .ok v' w' := q1
  simp [execOp, hop, resolve, hc, hargs', htys', invoke, builtin, Y6, q1]
 unfold appendSel at hs
 split at hs
 ·rename_i ts r' j' e' e2' t' ix xx hsel
  obtain ⟨rfl, hgs, _⟩ := Y58 hsel
  split at hs
  ·rename_i r j e e2 t i y htx
   split at hs
   ·rename_i h
    obtain ⟨⟨⟨rfl, rfl⟩, rfl, rfl, rfl⟩, rfl, hte⟩ := h
    simp only [Option.some.injEq, Prod.mk.injEq, Bool.and_eq_true, decide_eq_true_eq, List.all_eq_true] at hs
    obtain ⟨⟨hlt, hbd⟩, hs⟩ := hs
    obtain ⟨vs, cs, bs, hsl, hlen, hv, hrel, hno⟩ := hr.moveSel hgs
    have hlen1 : (put env ts .undef).length = env.length := Y5 _ _ _
    rw [<- hlen1] at hlen hv hrel hno
    have hav := hrel.av (put env ts .undef).length
    have es : (SS (put env ts .undef) (upd noP (put env ts .undef).length (.sel r' j' te.id e2' t' ix xx)) a.tmps vs w cs bs).env (put env ts .undef).length = .sel r' j' te.id e2' t' ix xx := by show ovl _ _ _ = _; rw [Yf (Nat.le_refl _), Y0]
    have et : (SS (put env ts .undef) (upd noP (put env ts .undef).length (.sel r' j' te.id e2' t' ix xx)) a.tmps vs w cs bs).tm (put env ts .undef).length = vs (put env ts .undef).length := if_neg (by rw [<- hlen]; omega)
    rw [es, et] at hav
    obtain ⟨⟨k1, k2⟩, _, xs, k3, k4, k5, k6⟩ := hav
    obtain ⟨v', w', q1, q2⟩ := Y59 hT hlen hrel hno ht o.type hte k3 (fun l b hb => by
     cases l with
     | zero => have hb : b ∈ bs (put env ts .undef).length 0 := hb; rw [show bs (put env ts .undef).length 0 = _ from k2] at hb; exact Ya.1 hb
     | succ l => have hb : b ∈ bs (put env ts .undef).length (l + 1) := hb; rw [show bs (put env ts .undef).length (l + 1) = [] from k1 l] at hb; cases hb) (fun b hb => ⟨0, by show b ∈ bs _ 0; rw [show bs (put env ts .undef).length 0 = _ from k2]; exact Ya.2 hb⟩) k4 k5 k6 htx hlt hbd
    exact finS hdst (v := v') (w' := w') (hrun _ v' w' hv.symm q1) (by rw [hlen1]; exact hd) hlen1 q2 (Y0 _ _ _) hs hn
   ·cases hs
  ·cases hs
 ·split at hs
  ·rename_i env2 e0 tt0 xs hg
   split at hs
   ·rename_i r j e e2 t i y htx
    split at hs
    ·rename_i h
     obtain ⟨⟨rfl, rfl⟩, rfl, hte⟩ := h
     simp only [Option.some.injEq, Prod.mk.injEq, Bool.and_eq_true, decide_eq_true_eq, List.isEmpty_iff] at hs
     obtain ⟨⟨rfl, hbd⟩, hs⟩ := hs
     obtain ⟨vs, hr⟩ := hr
     obtain ⟨hl2, hlen, cs, bs, hrel, hno⟩ := Y7s hr (fun _ => .inl rfl) hg (n := env.length) (Nat.le_refl _) rfl
     rw [<- hl2] at hrel hno
     have hone := Y3k hlen hrel (Nat.le_refl _) (Y0 _ _ _)
     obtain ⟨⟨v, cls, b0, b1, e1, e2', hel, hrow⟩, hb0, hcs⟩ := hone
     obtain ⟨rfl, rfl⟩ := hel
     have hrow : b0 = v.ownBlock.toList /\ w.ownsRow 0 te.id te.ty.sz v 0 [] := hrow
     have e1 : upd vs env2.length (evT a.tmps s) env2.length = v := by simpa using e1
     have hav := hrel.av env2.length
     have es : (SS env2 (upd noP env2.length (.con .val [⟨.slice te.id te.ty, [], .at_ .dp⟩])) a.tmps (upd vs env2.length (evT a.tmps s)) w cs bs).env env2.length = .con .val [⟨.slice te.id te.ty, [], .at_ .dp⟩] := by show ovl _ _ _ = _; rw [Yf (Nat.le_refl _), Y0]
     rw [es] at hav
     have hge := hav.2.2.1
     have hs1 : te.ty.sz = 1 := by rw [hte]; rfl
     have e2' : bs env2.length 1 = v.ownBlock.toList := by rw [show bs env2.length 1 = b0 ++ [] from e2', List.append_nil, hrow.1]
     obtain ⟨v', w', q1, q2⟩ := Y59 (ix := []) (x := ([] : List (List t.D))) (xs := []) hT hlen hrel hno ht o.type hte (by rw [e1, <- hs1]; exact hrow.2) (fun l b hb => by
      match l with
      | 0 => rw [hb0] at hb; cases hb
      | 1 => rw [e2'] at hb; rw [e1]; exact Ya.1 hb
      | l + 2 => rw [show bs env2.length (l + 2) = [] from hge (l + 1) (by simp)] at hb; cases hb) (fun b hb => ⟨1, by rw [e2']; rw [e1] at hb; exact Ya.2 hb⟩) rfl List.Pairwise.nil (fun k i y h1 h2 => by simp at h1) htx (by simp) hbd
     exact finS hdst (v := v') (w' := w') (hrun _ v' w' (Y0 _ _ _).symm q1) (by rw [hl2]; exact hd) hl2 q2 (Y0 _ _ _) hs hn
    ·cases hs
   ·cases hs
  ·cases hs
theorem Y8b (hT : TabOk P T) (hr : RE c env a.tmps w) {env' : Env} (h : selStep T caps o env = some (true, env')) {next : Act -> World -> Prop}
  (hn : ∀ a' w', RE c env' a'.tmps w' -> env'.length = env.length -> a'.defers = a.defers -> next a' w') : o.wp P a w next Q := by
 unfold selStep at h
 split at h
 ·rename_i d hg hdst
  split at h
  ·rename_i hd
   split at h
   ·rename_i x hop
    split at h
    ·rename_i s v hs
     split at h
     ·cases h
     ·simp only [Option.some.injEq, Prod.mk.injEq, true_and] at h
      exact Y93 hr (.inl hop) hdst hd hs h hn
    ·cases h
   ·rename_i x hop
    split at h
    ·rename_i s v hs
     split at h
     ·cases h
     ·simp only [Option.some.injEq, Prod.mk.injEq, true_and] at h
      exact Y93 hr (.inr hop) hdst hd hs h hn
    ·cases h
   ·rename_i t n parts hop
    split at h
    ·split at h
     ·rename_i te ht
      split at h
      ·rename_i v hs
       simp only [Option.some.injEq, Prod.mk.injEq, true_and] at h
       exact Yby hT hr hop hdst hd ht hs h hn
      ·cases h
     ·cases h
    ·cases h
   ·rename_i cl hop
    split at h
    ·rename_i hc
     split at h
     ·rename_i s x t0 t1 hargs htys
      split at h
      ·rename_i htt
       subst htt
       split at h
       ·rename_i tx vx te hsx ht
        exact Yb5 hT hr hop hc hargs htys hdst hd ht hsx h hn
       ·cases h
      ·cases h
     ·cases h
    ·cases h
   ·cases h
  ·cases h
 ·cases h
end
end Go.FP

namespace Go.FP
open Go.RowKit
theorem Ya5 (r : Nat) : Fewer (renewG r) := by
 intro r' j p l
 unfold renewG
 simp only
 split
 ·exact .inl rfl
 ·exact .inr rfl
section
variable {c : Cx} {env : Env} {w : World}
theorem RP.renewR {tmps : Array Value} {vs : Nat -> Value} {cs : Nat -> List Value} {bs : Nat -> Nat -> List Nat} (hlen : env.length = tmps.size) (hrel : Rel c (SS env noP tmps vs w cs bs)) (hno : ∀ r, (∀ q ∈ (ovl env noP r).refs, q.1 < env.length) /\ (∀ q ∈ (ovl env noP r).ptrs, q < env.length))
  {r : Nat} {e : BoxK} {ls : List Leaf} (hr : get env r = .con (.box e) ls) {B : Nat} (hB : bs r 0 = [B]) (htm : tmps.getD r undef = .pointer (some ⟨B, 0, none⟩)) {w' : World} (hbel : Below c.base w w') {ch' : List Value} {br bn : Nat -> List Nat} {ns : List Leaf} {k2 : Kind} {ls2 : List Leaf} {rv : Value} {cells2 : List Value}
  (hheap : ∀ b, b < w.heap.size -> (∀ l, b ∉ bs r l) -> w'.heap[b]? = w.heap[b]?) (hBh : w'.heap[B]? = some (.cells ch'.toArray e.id (0, 0))) (hfix : ∀ l, nthB e.fix l = true -> ch'[l]? = (cs r)[l]?)
  (hbr0 : br 0 = [B]) (hnl : ns.length = ch'.length) (hbrn : ∀ l, ns.length <= l -> br (l + 1) = []) (hn1 : ∀ l b, b ∈ br l -> b < w'.heap.size /\ (w.heap.size <= b \/ ∃ l', b ∈ bs r l')) (hn2 : ∀ l b, b ∈ bn l -> b < w'.heap.size /\ (w.heap.size <= b \/ ∃ l', b ∈ bs r l'))
  (hd1 : ∀ l l' b, b ∈ br l -> b ∈ br l' -> l = l') (hd2 : ∀ l l' b, b ∈ bn l -> b ∈ bn l' -> l = l') (hd3 : ∀ l l' b, b ∈ br l -> b ∉ bn l') (hnd1 : ∀ l, (br l).Nodup) (hnd2 : ∀ l, (bn l).Nodup)
  (hset1 : ∀ l ∈ ns, l.refs = []) (hset2 : ∀ l ∈ ls2, l.m.settled = true)
  (hleaf : let s' : St := ⟨upd (upd (chgE (renewG r) (ovl env noP)) r (.con (.box e) ns)) env.length (.con k2 ls2), upd (ovlT tmps vs) env.length rv, w', upd (upd cs r ch') env.length cells2, upd (upd bs r br) env.length bn⟩
   Keeps c (SS env noP tmps vs w cs bs) s' -> (∀ l lf u, ns[l]? = some lf -> ch'[l]? = some u -> LeafRel c s' r l u lf) /\ AVRel c s' env.length (.con k2 ls2) rv) :
  RP c (renewBox r (.box e) ns env) tmps w' (upd noP env.length (.con k2 ls2)) (upd vs env.length rv) := by
 have hrl : r < env.length := Yx hr
 have hrN : r ≠ env.length := Nat.ne_of_lt hrl
 let s' : St := ⟨upd (upd (chgE (renewG r) (ovl env noP)) r (.con (.box e) ns)) env.length (.con k2 ls2), upd (ovlT tmps vs) env.length rv, w', upd (upd cs r ch') env.length cells2, upd (upd bs r br) env.length bn⟩
 have hbN : ∀ l, bs env.length l = [] := by
  have := hrel.av env.length
  rw [show (SS env noP tmps vs w cs bs).env env.length = .undef by show ovl env noP _ = _; rw [Yf (Nat.le_refl _)]; rfl] at this
  exact this
 have eR : s'.bs r = br := by show upd (upd bs r br) env.length bn r = _; rw [Y2 _ _ hrN, Y0]
 have eN : s'.bs env.length = bn := Y0 _ _ _
 have eO : ∀ p, p ≠ r -> p ≠ env.length -> s'.env p = (ovl env noP p).chg (renewG r) /\ s'.tm p = ovlT tmps vs p /\ s'.cs p = cs p /\ s'.bs p = bs p := fun p h1 h2 => by
  refine ⟨?_, Y2 _ _ h2, ?_, ?_⟩
  ·show upd (upd _ r _) env.length _ p = _
   rw [Y2 _ _ h2, Y2 _ _ h1]; rfl
  ·show upd (upd cs r ch') env.length cells2 p = _
   rw [Y2 _ _ h2, Y2 _ _ h1]
  ·show upd (upd bs r br) env.length bn p = _
   rw [Y2 _ _ h2, Y2 _ _ h1]
 have hstep : Rel c s' := by
  refine Rel.step (s := SS env noP tmps vs w cs bs) (s' := s') (renewG r) hrel (fun p => p = r \/ p = env.length) (fun a j => ∃ lf u, OwnPlace (SS env noP tmps vs w cs bs) a j lf u) (fun a => ∃ off v, PtrRel (SS env noP tmps vs w cs bs) a off v) (fun p hp => ?_) hbel (fun b hb hne => ?_) (fun p l b hp hb => ?_) (fun p l p' l' b hp hp' hb hb' => ?_) (fun p l hp => ?_) (fun p hp => ?_) (fun hk => ⟨?_, ?_, ?_⟩) (fun hk p hp => ?_)
  ·exact eO p (fun e => hp (.inl e)) (fun e => hp (.inr e))
  ·exact hheap b hb (fun l => hne r l (.inl rfl))
  ·rcases hp with rfl | rfl
   ·rw [eR] at hb
    obtain ⟨h1, h2⟩ := hn1 l b hb
    exact ⟨h1, h2.imp id (fun ⟨l', h⟩ => ⟨p, l', .inl rfl, h⟩)⟩
   ·rw [eN] at hb
    obtain ⟨h1, h2⟩ := hn2 l b hb
    exact ⟨h1, h2.imp id (fun ⟨l', h⟩ => ⟨r, l', .inl rfl, h⟩)⟩
  ·rcases hp with rfl | rfl
   ·rcases hp' with rfl | rfl
    ·rw [eR] at hb hb'; exact ⟨rfl, hd1 _ _ _ hb hb'⟩
    ·rw [eR] at hb; rw [eN] at hb'; exact absurd hb' (hd3 _ _ _ hb)
   ·rcases hp' with rfl | rfl
    ·rw [eN] at hb; rw [eR] at hb'; exact absurd hb (hd3 _ _ _ hb')
    ·rw [eN] at hb hb'; exact ⟨rfl, hd2 _ _ _ hb hb'⟩
  ·rcases hp with rfl | rfl
   ·rw [eR]; exact hnd1 l
   ·rw [eN]; exact hnd2 l
  ·exact (hrel.av p).refs_own
  ·intro u t x r1 j p hL hbor
   unfold renewG
   simp only
   by_cases h1 : r1 = r
   ·rw [if_pos h1]
    exact ⟨rfl, Rep.one hbor.1 u (by simp)⟩
   ·rw [if_neg h1]
    refine ⟨rfl, ?_⟩
    obtain ⟨lf0, u0, h2, h3, h4⟩ := hL
    have hlt : r1 < env.length := by
     apply Nat.lt_of_not_le
     intro hge
     have : (SS env noP tmps vs w cs bs).env r1 = .undef := by show ovl env noP r1 = _; rw [Yf hge]; rfl
     rw [this] at h2; simp [AV.leaf?] at h2
    obtain ⟨o1, o2, o3, o4⟩ := eO r1 h1 (Nat.ne_of_lt hlt)
    refine BorRel.keep hk ⟨fun lf u hown => ?_, by rw [o4], fun b hb => ?_⟩ hbor
    ·obtain ⟨p1, p2, p3⟩ := hown
     refine ⟨?_, p2, by rw [o3]; exact p3⟩
     rw [o1]
     have p1 : (ovl env noP r1).leaf? j = some lf := p1
     cases hv : ovl env noP r1 with
     | con k0 ls0 =>
      rw [hv] at p1
      simp only [AV.leaf?] at p1
      simp only [AV.chg, AV.leaf?]
      rw [Yd, p1]
      obtain ⟨t0, x0, m0⟩ := lf
      cases m0 with
      | at_ lv => rfl
      | bor _ _ _ => simp [Mode.own] at p2
      | dead => simp [Mode.own] at p2
     | _ => rw [hv] at p1; simp [AV.leaf?] at p1
    ·exact hheap b (hrel.own _ _ _ hb).2 (fun l hl => h1 (hrel.disj _ _ _ _ _ hb hl).1)
  ·intro a r1 j p i o hL hwr
   unfold renewG
   simp only
   by_cases h1 : r1 = r
   ·subst h1
    simp
   ·rw [show (r1 == r) = false from by simpa using h1]
    simp only [Bool.false_eq_true, if_false]
    obtain ⟨lf0, u0, h2, h3, h4⟩ := hL
    have hlt : r1 < env.length := by
     apply Nat.lt_of_not_le
     intro hge
     have : (SS env noP tmps vs w cs bs).env r1 = .undef := by show ovl env noP r1 = _; rw [Yf hge]; rfl
     rw [this] at h2; simp [AV.leaf?] at h2
    obtain ⟨o1, o2, o3, o4⟩ := eO r1 h1 (Nat.ne_of_lt hlt)
    refine WrRel0.keep hk ⟨fun lf u hown => ?_, by rw [o4], fun b hb => ?_⟩ hwr
    ·obtain ⟨p1, p2, p3⟩ := hown
     refine ⟨?_, p2, by rw [o3]; exact p3⟩
     rw [o1]
     have p1 : (ovl env noP r1).leaf? j = some lf := p1
     cases hv : ovl env noP r1 with
     | con k0 ls0 =>
      rw [hv] at p1
      simp only [AV.leaf?] at p1
      simp only [AV.chg, AV.leaf?]
      rw [Yd, p1]
      obtain ⟨t0, x0, m0⟩ := lf
      cases m0 with
      | at_ lv => rfl
      | bor _ _ _ => simp [Mode.own] at p2
      | dead => simp [Mode.own] at p2
     | _ => rw [hv] at p1; simp [AV.leaf?] at p1
    ·exact hheap b (hrel.own _ _ _ hb).2 (fun l hl => h1 (hrel.disj _ _ _ _ _ hb hl).1)
  ·intro r1 hL _
   obtain ⟨off, v, e0, ls0, B0, q1, q2, q3⟩ := hL
   have q1 : ovl env noP r1 = .con (.box e0) ls0 := q1
   have hlt : r1 < env.length := by
    apply Nat.lt_of_not_le
    intro hge
    rw [Yf hge] at q1
    exact AV.noConfusion q1
   refine ⟨Y2 _ _ (Nat.ne_of_lt hlt), fun e1 ls1 h1 => ?_⟩
   by_cases h2 : r1 = r
   ·subst h2
    exact ⟨e, ns, by show upd (upd _ r1 _) env.length _ r1 = _; rw [Y2 _ _ hrN, Y0]⟩
   ·have h1 : ovl env noP r1 = .con (.box e1) ls1 := h1
    exact ⟨e1, chgs (renewG r) ls1, by rw [(eO r1 h2 (Nat.ne_of_lt hlt)).1, h1]; rfl⟩
  ·obtain ⟨hl1, hl2⟩ := hleaf hk
   rcases hp with rfl | rfl
   ·have ee : s'.env p = .con (.box e) ns := by show upd (upd _ p _) env.length _ p = _; rw [Y2 _ _ hrN, Y0]
    have et : s'.tm p = .pointer (some ⟨B, 0, none⟩) := by
     show upd (ovlT tmps vs) env.length rv p = _
     rw [Y2 _ _ hrN]
     exact (if_pos (by omega)).trans htm
    have ec : s'.cs p = ch' := by show upd (upd cs p ch') env.length cells2 p = _; rw [Y2 _ _ hrN, Y0]
    have hav := hrel.av p
    rw [show (SS env noP tmps vs w cs bs).env p = .con (.box e) ls by show ovl env noP p = _; rw [Y7 hrl]; exact hr] at hav
    obtain ⟨⟨B1, g1, g2, g3, g4, g5⟩, _⟩ := hav
    rw [ee, et]
    refine ⟨⟨B, rfl, by rw [ec]; exact hBh, by rw [eR]; exact hbr0, fun hp => ?_, fun l hl => ?_⟩, by rw [ec]; exact hnl, fun l hl => by rw [eR]; exact hbrn l hl, fun l lf u hl hu => hl1 l lf u (by rw [<- Y1]; exact hl) (by rw [ec] at hu; exact hu)⟩
    ·rw [<- g4 hp, <- htm]
     exact (if_pos (by omega)).symm
    ·rw [ec, hfix l hl]; exact g5 l hl
   ·have ee : s'.env env.length = .con k2 ls2 := Y0 _ _ _
    have et : s'.tm env.length = rv := Y0 _ _ _
    rw [ee, et]
    exact hl2
 have hbl : (renewBox r (.box e) ns env).length = env.length := by unfold renewBox; rw [Y5, Y8]
 have e1 : upd (upd (chgE (renewG r) (ovl env noP)) r (.con (.box e) ns)) env.length (.con k2 ls2) = ovl (renewBox r (.box e) ns env) (upd noP env.length (.con k2 ls2)) := by
  rw [Ye (by rw [hbl]; exact Nat.le_refl _)]
  congr 1
  funext p
  by_cases hp : p < env.length
  ·rw [Y7 (by rw [hbl]; exact hp)]
   unfold renewBox
   rw [Y4h (by rw [Y8]; exact hrl), Y7e]
   by_cases h1 : p = r
   ·rw [h1, Y0, Y0]
   ·rw [Y2 _ _ h1, Y2 _ _ h1]
    show (ovl env noP p).chg _ = (get env p).chg _
    rw [Y7 hp]
  ·rw [Yf (by rw [hbl]; omega), Y2 _ _ (by omega)]
   show (ovl env noP p).chg _ = _
   rw [Yf (by omega)]; rfl
 refine ⟨by rw [hbl]; exact hlen, _, _, Rel.congr hstep e1 (Yy (by omega) rv).symm, fun p => ?_⟩
 rw [hbl, <- e1]
 by_cases h2 : p = env.length
 ·rw [h2, Y0, (Yg hset2).1, (Yg hset2).2]
  exact ⟨by simp, by simp⟩
 ·rw [Y2 _ _ h2]
  by_cases h1 : p = r
  ·rw [h1, Y0]
   refine ⟨fun q hq => ?_, by simp [AV.ptrs]⟩
   simp only [AV.refs, List.mem_flatMap] at hq
   obtain ⟨l, hl, hq⟩ := hq
   rw [hset1 l hl] at hq; simp at hq
  ·rw [Y2 _ _ h1]
   have := Yj (Ya5 r) (ovl env noP p)
   exact ⟨fun q hq => (hno p).1 q (this.1 q hq), fun q hq => (hno p).2 q (this.2 q hq)⟩
end
end Go.FP

namespace Go.FP
open Go.RowKit
theorem Y3l {b : BoxSig} : ∀ {ls : List Leaf} {n l : Nat} {lf : Leaf}, boxFits b n ls = true -> ls[l]? = some lf -> lf.m.settled = true /\ (∀ e τ, lf.t = .slice e τ -> (slotAt b.lv (n + l)).isFx = true \/ lf.m = b.md (n + l))
 | [], n, l, lf, _, hl => by simp at hl
 | a :: ls, n, 0, lf, h, hl => by
  obtain rfl : a = lf := by simpa using hl
  simp only [boxFits, Bool.and_eq_true] at h
  refine ⟨h.1.1, fun e τ ht => ?_⟩
  have := h.1.2
  rw [ht] at this
  simpa using this
 | a :: ls, n, l + 1, lf, h, hl => by
  simp only [boxFits, Bool.and_eq_true] at h
  have := Y3l (n := n + 1) (l := l) h.2 (by simpa using hl)
  rwa [show n + 1 + l = n + (l + 1) by omega] at this
theorem Y6z {b : BoxSig} : ∀ {ls : List Leaf} {n l : Nat} {lf : Leaf}, boxCalm b n ls = true -> ls[l]? = some lf -> ∀ e τ, lf.t = .slice e τ -> slotAt b.lv (n + l) = .fx \/ slotAt b.lv (n + l) = .dp
 | [], n, l, lf, _, hl => by simp at hl
 | a :: ls, n, 0, lf, h, hl => by
  obtain rfl : a = lf := by simpa using hl
  simp only [boxCalm, Bool.and_eq_true] at h
  intro e τ ht
  have := h.1
  rw [ht] at this
  simp only [Nat.add_zero]
  cases hs : slotAt b.lv n <;> rw [hs] at this <;> simp_all
 | a :: ls, n, l + 1, lf, h, hl => by
  simp only [boxCalm, Bool.and_eq_true] at h
  have := Y6z (n := n + 1) (l := l) h.2 (by simpa using hl)
  rwa [show n + 1 + l = n + (l + 1) by omega] at this
theorem Y70 {b : BoxSig} : ∀ {ls : List Leaf} {n l : Nat} {lf : Leaf}, boxFxRo b n ls = true -> ls[l]? = some lf -> (slotAt b.lv (n + l)).isFx = true -> lf.m.own = false
 | [], n, l, lf, _, hl => by simp at hl
 | a :: ls, n, 0, lf, h, hl => by
  obtain rfl : a = lf := by simpa using hl
  simp only [boxFxRo, Bool.and_eq_true, Bool.or_eq_true, Bool.not_eq_true'] at h
  intro hf
  rcases h.1 with h1 | h1
  ·rw [Nat.add_zero] at hf; rw [hf] at h1; cases h1
  ·exact h1
 | a :: ls, n, l + 1, lf, h, hl => by
  simp only [boxFxRo, Bool.and_eq_true] at h
  have := Y70 (n := n + 1) (l := l) h.2 (by simpa using hl)
  rwa [show n + 1 + l = n + (l + 1) by omega] at this
theorem Y5a : ∀ {fs : List Bool} {ss : List Slot} {l : Nat}, subFix fs ss = true -> nthB fs l = true -> (slotAt ss l).isFx = true
 | [], ss, l, _, h => by simp [nthB] at h
 | f :: fs, [], 0, h, h2 => by simp only [subFix, Bool.and_eq_true, Bool.not_eq_true'] at h; simp only [nthB] at h2; rw [h2] at h; simp at h
 | f :: fs, [], l + 1, h, h2 => by simp only [subFix, Bool.and_eq_true] at h; exact Y5a (ss := []) (l := l) h.2 h2
 | f :: fs, s :: ss, 0, h, h2 => by
  simp only [subFix, Bool.and_eq_true, Bool.or_eq_true, Bool.not_eq_true'] at h
  simp only [nthB] at h2
  rcases h.1 with h1 | h1
  ·rw [h2] at h1; cases h1
  ·exact h1
 | f :: fs, s :: ss, l + 1, h, h2 => by simp only [subFix, Bool.and_eq_true] at h; exact Y5a (fs := fs) (ss := ss) (l := l) h.2 h2
theorem Y3s {b : BoxSig} : ∀ {n : Nat} {ls ms : List Leaf}, ls.length = ms.length -> (mixLs b n ls ms).length = ls.length
 | n, [], [], _ => rfl
 | n, [], _ :: _, h => by simp at h
 | n, _ :: _, [], h => by simp at h
 | n, l :: ls, m :: ms, h => by simp only [mixLs, List.length_cons]; rw [Y3s (by simpa using h)]
theorem Y6e {b : BoxSig} : ∀ {n l : Nat} {ls ms : List Leaf} {lf : Leaf}, (mixLs b n ls ms)[l]? = some lf -> ((slotAt b.lv (n + l)).isFx = true /\ ls[l]? = some lf) \/ ((slotAt b.lv (n + l)).isFx = false /\ ms[l]? = some lf)
 | n, l, [], ms, lf, h => by simp [mixLs] at h
 | n, l, _ :: _, [], lf, h => by simp [mixLs] at h
 | n, 0, a :: ls, m :: ms, lf, h => by
  simp only [mixLs, List.getElem?_cons_zero, Option.some.injEq] at h
  cases hs : (slotAt b.lv n).isFx with
  | true => rw [hs] at h; exact .inl ⟨by simpa using hs, by simpa using h⟩
  | false => rw [hs] at h; exact .inr ⟨by simpa using hs, by simpa using h⟩
 | n, l + 1, a :: ls, m :: ms, lf, h => by
  simp only [mixLs, List.getElem?_cons_succ] at h
  have := Y6e (n := n + 1) (l := l) h
  rw [show n + 1 + l = n + (l + 1) by omega] at this
  simpa using this
def Leaf.dat (l : Leaf) : Σ t : Ty, t.D := ⟨l.t, l.x⟩
theorem Y71 {l : Leaf} {t : Ty} {x : t.D} (h : l.as t = some x) : l.dat = ⟨t, x⟩ := by
 rw [Leaf.as_eq h]; rfl
theorem Y5t (md : Nat -> Mode) : ∀ (t : Ty) {ls : List Leaf} {x : t.D} {rest : List Leaf} (n : Nat), asm t ls = some (x, rest) -> ∃ pre, ls = pre ++ rest /\ pre.map Leaf.dat = (leaves t x md n).map Leaf.dat
 | .unit, ls, x, rest, n, h => by
  simp only [asm, Option.some.injEq, Prod.mk.injEq] at h
  obtain ⟨_, rfl⟩ := h
  exact ⟨[], rfl, rfl⟩
 | .pair a b, ls, x, rest, n, h => by
  simp only [asm] at h
  cases ha : asm a ls with
  | none => rw [ha] at h; simp at h
  | some q =>
   obtain ⟨xa, ra⟩ := q
   rw [ha] at h
   simp only at h
   cases hb : asm b ra with
   | none => rw [hb] at h; simp at h
   | some q =>
    obtain ⟨xb, rb⟩ := q
    rw [hb] at h
    simp only [Option.some.injEq, Prod.mk.injEq] at h
    obtain ⟨rfl, rfl⟩ := h
    obtain ⟨p1, e1, k1⟩ := Y5t md a n ha
    obtain ⟨p2, e2, k2⟩ := Y5t md b (n + a.sz) hb
    exact ⟨p1 ++ p2, by rw [e1, e2, List.append_assoc], by simp only [leaves, List.map_append, k1, k2]⟩
 | .int kk, ls, x, rest, n, h => by
  cases ls with
  | nil => simp [asm] at h
  | cons l ls =>
   simp only [asm] at h
   cases hx : l.as (.int kk) with
   | none => rw [hx] at h; simp at h
   | some y =>
    rw [hx] at h
    simp only [Option.some.injEq, Prod.mk.injEq] at h
    obtain ⟨rfl, rfl⟩ := h
    exact ⟨[l], rfl, by simp only [List.map_cons, List.map_nil, Y71 hx]; rfl⟩
 | .bool, ls, x, rest, n, h => by
  cases ls with
  | nil => simp [asm] at h
  | cons l ls =>
   simp only [asm] at h
   cases hx : l.as .bool with
   | none => rw [hx] at h; simp at h
   | some y =>
    rw [hx] at h
    simp only [Option.some.injEq, Prod.mk.injEq] at h
    obtain ⟨rfl, rfl⟩ := h
    exact ⟨[l], rfl, by simp only [List.map_cons, List.map_nil, Y71 hx]; rfl⟩
 | .str, ls, x, rest, n, h => by
  cases ls with
  | nil => simp [asm] at h
  | cons l ls =>
   simp only [asm] at h
   cases hx : l.as .str with
   | none => rw [hx] at h; simp at h
   | some y =>
    rw [hx] at h
    simp only [Option.some.injEq, Prod.mk.injEq] at h
    obtain ⟨rfl, rfl⟩ := h
    exact ⟨[l], rfl, by simp only [List.map_cons, List.map_nil, Y71 hx]; rfl⟩
 | .slice e τ, ls, x, rest, n, h => by
  cases ls with
  | nil => simp [asm] at h
  | cons l ls =>
   simp only [asm] at h
   cases hx : l.as (.slice e τ) with
   | none => rw [hx] at h; simp at h
   | some y =>
    rw [hx] at h
    simp only [Option.some.injEq, Prod.mk.injEq] at h
    obtain ⟨rfl, rfl⟩ := h
    exact ⟨[l], rfl, by simp only [List.map_cons, List.map_nil, Y71 hx]; rfl⟩
theorem Y1z (md : Nat -> Mode) : ∀ (t : Ty) (x : t.D) (n l : Nat) (lf : Leaf), (leaves t x md n)[l]? = some lf -> (lf.t.flatB = true /\ lf.m = .at_ .ro) \/ ((∃ e τ, lf.t = .slice e τ) /\ lf.m = md (n + l))
 | .unit, x, n, l, lf, h => by simp [leaves] at h
 | .int _, x, n, 0, lf, h => by simp only [leaves, List.getElem?_cons_zero, Option.some.injEq] at h; subst h; exact .inl ⟨rfl, rfl⟩
 | .bool, x, n, 0, lf, h => by simp only [leaves, List.getElem?_cons_zero, Option.some.injEq] at h; subst h; exact .inl ⟨rfl, rfl⟩
 | .str, x, n, 0, lf, h => by simp only [leaves, List.getElem?_cons_zero, Option.some.injEq] at h; subst h; exact .inl ⟨rfl, rfl⟩
 | .slice e τ, x, n, 0, lf, h => by simp only [leaves, List.getElem?_cons_zero, Option.some.injEq] at h; subst h; exact .inr ⟨⟨e, τ, rfl⟩, rfl⟩
 | .int _, x, n, l + 1, lf, h => by simp [leaves] at h
 | .bool, x, n, l + 1, lf, h => by simp [leaves] at h
 | .str, x, n, l + 1, lf, h => by simp [leaves] at h
 | .slice _ _, x, n, l + 1, lf, h => by simp [leaves] at h
 | .pair a b, x, n, l, lf, h => by
  simp only [leaves] at h
  have ha : (leaves a x.1 md n).length = a.sz := by
   have := congrArg List.length (Yk a x.1 md n)
   rw [List.length_map] at this
   rw [this, Y1h]
  by_cases hl : l < a.sz
  ·rw [List.getElem?_append_left (by omega)] at h
   exact Y1z md a x.1 n l lf h
  ·rw [List.getElem?_append_right (by omega), ha] at h
   have := Y1z md b x.2 (n + a.sz) (l - a.sz) lf h
   rwa [show n + a.sz + (l - a.sz) = n + l by omega] at this
end Go.FP

namespace Go.FP
open Go.RowKit
section
variable {c : Cx} {env : Env} {tmps : Array Value} {w : World} {ps : Nat -> AV} {vs : Nat -> Value} {cs : Nat -> List Value} {bs : Nat -> Nat -> List Nat} {caps : FuncId -> List Ty} {S : Nat -> Prop}
theorem Y7x {s : St} : ∀ {avs : List AV} {us : List Value} {k : Nat} {av : AV}, ValCs c s avs us -> nthL avs k = some av -> ∃ u cells, us[k]? = some u /\ ValC c s av u cells
 | [], us, k, av, _, h => by simp [nthL] at h
 | v :: avs, us, 0, av, ⟨u, us', e, ⟨cells, hv⟩, _⟩, h => by
  simp only [nthL, Option.some.injEq] at h
  subst h; subst e
  exact ⟨u, cells, rfl, hv⟩
 | v :: avs, us, k + 1, av, ⟨u, us', e, _, h2⟩, h => by
  simp only [nthL] at h
  obtain ⟨u2, cells, h3, h4⟩ := Y7x h2 h
  subst e
  exact ⟨u2, cells, by simpa using h3, h4⟩
theorem Y94 {t : Ty} {r : Nat} : ∀ {ptys : List PTy} {avs : List AV} {rvs : List RV} {k : Nat}, RVsX caps env r ptys avs = some rvs -> nthL ptys k = some (.ptr t) -> nthL avs k = some (.path r 0) -> ∃ x, nthL rvs k = some (.ptr t x) /\ ptrOf env t r 0 = some x
 | [], avs, rvs, k, _, h, _ => by simp [nthL] at h
 | p :: ptys, [], rvs, k, _, _, h => by simp [nthL] at h
 | p :: ptys, v :: avs, rvs, k, ho, h1, h2 => by
  simp only [RVsX] at ho
  cases hx : RVofX caps env r p v with
  | none => rw [hx] at ho; simp at ho
  | some x =>
   cases hxs : RVsX caps env r ptys avs with
   | none => rw [hx, hxs] at ho; simp at ho
   | some xs =>
    rw [hx, hxs] at ho
    simp only [Option.some.injEq] at ho
    subst ho
    cases k with
    | zero =>
     simp only [nthL, Option.some.injEq] at h1 h2
     subst h1; subst h2
     simp only [RVofX, RVof] at hx
     cases hp : ptrOf env t r 0 with
     | none => rw [hp] at hx; simp at hx
     | some y =>
      rw [hp] at hx
      simp only [Option.some.injEq] at hx
      subst hx
      exact ⟨y, rfl, rfl⟩
    | succ k => exact Y94 (ptys := ptys) (avs := avs) (rvs := xs) (k := k) hxs h1 h2
theorem Y63 {r : Nat} {v : AV} (h : apartR r v = true) : (∀ q ∈ v.refs, q.1 ≠ r) /\ ∀ q ∈ v.ptrs, q ≠ r := by
 simp only [apartR, Bool.and_eq_true, List.all_eq_true, Bool.not_eq_true', beq_eq_false_iff_ne] at h
 exact h
theorem Y64 {r : Nat} {v : AV} (h : apartX r v = true) : (∃ f cs, v = .fptr f cs) \/ apartR r v = true := by
 unfold apartX at h
 split at h
 ·exact .inl ⟨_, _, rfl⟩
 ·exact .inr h
theorem RVRelX.of {pb : Value} {x : RV} {v : Value} (h : RVRel S w x v) : RVRelX S w pb x v := by
 cases x with
 | fptr f cs => exact h.elim
 | _ => exact h
theorem Y95 {p : PTy} {f : FuncId} {cs : List Cap} : RVof caps env p (.fptr f cs) = none := by
 cases p <;> rfl
theorem Y72 (h : Rel c (SS env ps tmps vs w cs bs)) (h1 : ∀ b, RoS c (SS env ps tmps vs w cs bs) b -> S b) {r B : Nat} (htm : (SS env ps tmps vs w cs bs).tm r = .pointer (some ⟨B, 0, none⟩)) {v : Value} : ∀ {ts : List Ty} {cps : List Cap} {us : List Value} {rcs : List RCap}, CapRels c (SS env ps tmps vs w cs bs) v cps us -> capRVs env r ts cps = some rcs ->
  (∀ q ∈ capRoots cps, q ≠ r -> ∀ l, ∀ b ∈ bs q l, S b) -> RCapRels S w (.pointer (some ⟨B, 0, none⟩)) v rcs us
 | [], [], us, rcs, hc, ho, _ => by simp only [capRVs, Option.some.injEq] at ho; subst ho; exact hc
 | [], _ :: _, us, rcs, hc, ho, _ => by simp [capRVs] at ho
 | _ :: _, [], us, rcs, hc, ho, _ => by simp [capRVs] at ho
 | t :: ts, cp :: cps, us, rcs, ⟨u, us', e, hc1, hc2⟩, ho, h3 => by
  simp only [capRVs] at ho
  cases hx : capRV env r t cp with
  | none => rw [hx] at ho; simp at ho
  | some x =>
   cases hxs : capRVs env r ts cps with
   | none => rw [hx, hxs] at ho; simp at ho
   | some xs =>
    rw [hx, hxs] at ho
    simp only [Option.some.injEq] at ho
    subst ho
    refine ⟨u, us', e, ?_, Y72 h h1 htm hc2 hxs (fun q hq => h3 q (by simp only [capRoots, List.mem_append]; exact .inr hq))⟩
    cases cp with
    | path r' off =>
     simp only [capRV] at hx
     by_cases hr : r' = r
     ·rw [if_pos hr] at hx
      split at hx
      ·rename_i hoff
       simp only [Option.some.injEq] at hx
       subst hx; subst hr; subst hoff
       obtain ⟨e1, ls1, B1, _, k2, k3⟩ := hc1
       rw [htm] at k2
       have : B = B1 := by simpa using k2
       subst this
       exact k3
      ·simp at hx
     ·rw [if_neg hr] at hx
      split at hx
      ·rename_i y hy
       simp only [Option.some.injEq] at hx
       subst hx
       exact Y52 h hy hc1 h1 (h3 r' (by simp [capRoots, Cap.roots]) hr)
      ·simp at hx
    | ro y =>
     simp only [capRV, Option.some.injEq] at hx
     subst hx
     exact PtrV.move (fun b hb _ => ⟨h1 b hb, rfl⟩) hc1
    | self =>
     simp only [capRV, Option.some.injEq] at hx
     subst hx
     exact hc1
theorem Y7y (h : Rel c (SS env ps tmps vs w cs bs)) (h1 : ∀ b, RoS c (SS env ps tmps vs w cs bs) b -> S b) {r B : Nat} (htm : (SS env ps tmps vs w cs bs).tm r = .pointer (some ⟨B, 0, none⟩)) {p : PTy} {av : AV} {u : Value} {cells : List Value} {x : RV} (hv : ValC c (SS env ps tmps vs w cs bs) av u cells) (ho : RVofX caps env r p av = some x) (hap : apartX r av = true)
  (h2 : ∀ q ∈ av.refs, ∀ b ∈ bs q.1 (q.2 + 1), S b) (h3 : ∀ q ∈ av.ptrs, q ≠ r -> ∀ l, ∀ b ∈ bs q l, S b) : RVRelX S w (.pointer (some ⟨B, 0, none⟩)) x u := by
 by_cases hps : p = .self
 ·subst hps
  simp only [RVofX] at ho
  split at ho
  ·rename_i f cps
   split at ho
   ·rename_i xs hxs
    simp only [Option.some.injEq] at ho
    subst ho
    obtain ⟨us, B1, k1, k2, k3, k4, k5⟩ := hv
    exact ⟨B1, us, k1, h1 _ k2, k3, k4, Y72 h h1 htm k5 hxs h3⟩
   ·simp at ho
  ·simp at ho
 ·have ho : RVof caps env p av = some x := by
   cases p with
   | self => exact absurd rfl hps
   | _ => exact ho
  rcases Y64 hap with ⟨f, cps, rfl⟩ | hap
  ·rw [Y95] at ho; simp at ho
  ·exact RVRelX.of (Y8s h hv ho h1 h2 (fun q hq => h3 q hq ((Y63 hap).2 q hq)))
theorem Y96 (h : Rel c (SS env ps tmps vs w cs bs)) (h1 : ∀ b, RoS c (SS env ps tmps vs w cs bs) b -> S b) {r B : Nat} (htm : (SS env ps tmps vs w cs bs).tm r = .pointer (some ⟨B, 0, none⟩)) : ∀ {ptys : List PTy} {avs : List AV} {us : List Value} {rvs : List RV}, ValCs c (SS env ps tmps vs w cs bs) avs us -> RVsX caps env r ptys avs = some rvs -> (∀ v ∈ avs, apartX r v = true) ->
  (∀ v ∈ avs, ∀ q ∈ v.refs, ∀ b ∈ bs q.1 (q.2 + 1), S b) -> (∀ v ∈ avs, ∀ q ∈ v.ptrs, q ≠ r -> ∀ l, ∀ b ∈ bs q l, S b) -> RVRelsY S w (.pointer (some ⟨B, 0, none⟩)) rvs us
 | [], [], us, rvs, hv, ho, _, _, _ => by simp only [RVsX, Option.some.injEq] at ho; subst ho; exact hv
 | [], _ :: _, us, rvs, _, ho, _, _, _ => by simp [RVsX] at ho
 | _ :: _, [], us, rvs, _, ho, _, _, _ => by simp [RVsX] at ho
 | p :: ptys, v :: avs, us, rvs, ⟨u, us', e, ⟨cells, hv1⟩, hv2⟩, ho, hap, h2, h3 => by
  simp only [RVsX] at ho
  cases hx : RVofX caps env r p v with
  | none => rw [hx] at ho; simp at ho
  | some x =>
   cases hxs : RVsX caps env r ptys avs with
   | none => rw [hx, hxs] at ho; simp at ho
   | some xs =>
    rw [hx, hxs] at ho
    simp only [Option.some.injEq] at ho
    subst ho
    exact ⟨u, us', e, Y7y h h1 htm hv1 hx (hap v List.mem_cons_self) (h2 v List.mem_cons_self) (h3 v List.mem_cons_self), Y96 h h1 htm hv2 hxs (fun v hv => hap v (List.mem_cons_of_mem _ hv)) (fun v hv => h2 v (List.mem_cons_of_mem _ hv)) (fun v hv => h3 v (List.mem_cons_of_mem _ hv))⟩
theorem Y97 (h : Rel c (SS env ps tmps vs w cs bs)) (h1 : ∀ b, RoS c (SS env ps tmps vs w cs bs) b -> S b) {r B : Nat} (htm : (SS env ps tmps vs w cs bs).tm r = .pointer (some ⟨B, 0, none⟩)) : ∀ {k : Nat} {ptys : List PTy} {avs : List AV} {us : List Value} {rvs : List RV}, ValCs c (SS env ps tmps vs w cs bs) avs us -> RVsX caps env r ptys avs = some rvs -> (∃ v, nthL avs k = some v) -> (∀ v ∈ dropAt k avs, apartX r v = true) ->
  (∀ v ∈ dropAt k avs, ∀ q ∈ v.refs, ∀ b ∈ bs q.1 (q.2 + 1), S b) -> (∀ v ∈ dropAt k avs, ∀ q ∈ v.ptrs, q ≠ r -> ∀ l, ∀ b ∈ bs q l, S b) -> RVRelsX S w (.pointer (some ⟨B, 0, none⟩)) k rvs us
 | k, ptys, [], us, rvs, _, _, ⟨v, hv⟩, _, _, _ => by simp [nthL] at hv
 | k, [], v :: avs, us, rvs, _, ho, _, _, _, _ => by simp [RVsX] at ho
 | 0, p :: ptys, v :: avs, us, rvs, ⟨u, us', e, ⟨cells, hv1⟩, hv2⟩, ho, _, hap, h2, h3 => by
  simp only [RVsX] at ho
  cases hx : RVofX caps env r p v with
  | none => rw [hx] at ho; simp at ho
  | some x =>
   cases hxs : RVsX caps env r ptys avs with
   | none => rw [hx, hxs] at ho; simp at ho
   | some xs =>
    rw [hx, hxs] at ho
    simp only [Option.some.injEq] at ho
    subst ho
    exact ⟨u, us', e, Y96 h h1 htm hv2 hxs hap h2 h3⟩
 | k + 1, p :: ptys, v :: avs, us, rvs, ⟨u, us', e, ⟨cells, hv1⟩, hv2⟩, ho, ⟨v0, hv0⟩, hap, h2, h3 => by
  simp only [RVsX] at ho
  cases hx : RVofX caps env r p v with
  | none => rw [hx] at ho; simp at ho
  | some x =>
   cases hxs : RVsX caps env r ptys avs with
   | none => rw [hx, hxs] at ho; simp at ho
   | some xs =>
    rw [hx, hxs] at ho
    simp only [Option.some.injEq] at ho
    subst ho
    exact ⟨u, us', e, Y7y h h1 htm hv1 hx (hap v (by simp [dropAt])) (h2 v (by simp [dropAt])) (h3 v (by simp [dropAt])), Y97 h h1 htm hv2 hxs ⟨v0, hv0⟩ (fun v hv => hap v (by simp [dropAt, hv])) (fun v hv => h2 v (by simp [dropAt, hv])) (fun v hv => h3 v (by simp [dropAt, hv]))⟩
end
theorem Ya6 {v : AV} (h : bareAV v = true) : v.refs = [] /\ v.ptrs = [] := by simpa [bareAV] using h
theorem Y2y {α : Type} (f : Nat -> List α) (n l : Nat) : ((List.range n).map f).getD l [] = if l < n then f l else [] := by
 rw [List.getD_eq_getElem?_getD, List.getElem?_map]
 by_cases h : l < n
 ·rw [List.getElem?_range h, if_pos h]; rfl
 ·rw [List.getElem?_eq_none (by simpa using h), if_neg h]; rfl
theorem Y2z {α : Type} {f : Nat -> List α} {n : Nat} {b : α} : b ∈ ((List.range n).map f).flatten ↔ ∃ l, l < n /\ b ∈ f l := by
 simp only [List.mem_flatten, List.mem_map, List.mem_range]
 exact ⟨fun ⟨_, ⟨l, hl, e⟩, hb⟩ => ⟨l, hl, e ▸ hb⟩, fun ⟨l, hl, hb⟩ => ⟨_, ⟨l, hl, rfl⟩, hb⟩⟩
theorem Y3t {f : Nat -> List Nat} (h1 : ∀ l, (f l).Nodup) (h2 : ∀ l l' b, b ∈ f l -> b ∈ f l' -> l = l') (n : Nat) : ((List.range n).map f).flatten.Nodup := by
 have := Y25 h1 h2 n 0
 rwa [List.flatMap_def, <- List.range_eq_range'] at this
section
variable {P : Program} {o : Oper} {a : Act} {w : World} {R : Type} {K : Env -> Option R} {rr : R} {next : Act -> World -> Prop} {Q : Exit -> Act -> World -> Prop} {c : Cx} {d : Nat} {env : Env} {caps : FuncId -> List Ty} {orc : Orc}
theorem Yb6 {tmps : Array Value} {vs : Nat -> Value} {cs : Nat -> List Value} {bs : Nat -> Nat -> List Nat} (hlen : env.length = tmps.size) (hrel : Rel c (SS env noP tmps vs w cs bs)) {r : Nat} {e : BoxK} {ls : List Leaf} (hr : get env r = .con (.box e) ls) {b : BoxSig} (hid : e.id = b.id) (hfit : boxFits b 0 ls = true) {t : Ty} {x : t.D} (has : asm t ls = some (x, [])) :
  ∃ B, tmps.getD r undef = .pointer (some ⟨B, 0, none⟩) /\ bs r 0 = [B] /\ w.heap[B]? = some (.cells (cs r).toArray b.id (0, 0)) /\ ls.length = (cs r).length /\ (∀ l, ls.length <= l -> bs r (l + 1) = []) /\ (∀ l lf u, ls[l]? = some lf -> (cs r)[l]? = some u -> LeafRel c (SS env noP tmps vs w cs bs) r l u lf) /\
   (leaves t x b.md 0).length = ls.length /\
   ∀ S : Nat -> Prop, (∀ k, RoS c (SS env noP tmps vs w cs bs) k -> k < w.heap.size -> S k) -> (∀ l, (slotAt b.lv l).isFx = true -> ∀ k ∈ bs r (l + 1), S k) ->
    LvsRel S w (fun _ => True) (leaves t x b.md 0) (cs r) ((List.range (cs r).length).map fun l => if (slotAt b.lv l).isFx then [] else bs r (l + 1)) := by
 have hrl : r < env.length := Yx hr
 have hav := hrel.av r
 rw [show (SS env noP tmps vs w cs bs).env r = .con (.box e) ls by show ovl env noP r = _; rw [Y7 hrl]; exact hr] at hav
 obtain ⟨⟨B, g1, g2, g3, _⟩, h2, h3, h4⟩ := hav
 have g1 : tmps.getD r undef = .pointer (some ⟨B, 0, none⟩) := by rw [<- g1]; exact (if_pos (by omega)).symm
 obtain ⟨pre, e1, e2⟩ := Y5t b.md t 0 has
 rw [List.append_nil] at e1
 subst e1
 have hll : (leaves t x b.md 0).length = ls.length := by have := congrArg List.length e2; simpa using this.symm
 refine ⟨B, g1, g3, hid ▸ g2, h2, h3, fun l lf u hl hu => h4 l lf u (by rw [Y1]; exact hl) hu, hll, fun S hS hfx => ⟨by rw [hll]; exact h2, by simp, fun l lf u _ hl hu => ?_⟩⟩
 have hlt : l < ls.length := by rw [<- hll]; exact (List.getElem?_eq_some_iff.1 hl).1
 have hd : ls[l].dat = lf.dat := by
  have h5 := congrArg (fun z => z[l]?) e2
  simp only [List.getElem?_map, hl, List.getElem?_eq_getElem hlt, Option.map_some, Option.some.injEq] at h5
  exact h5
 have h5 := h4 l ls[l] u (by rw [Y1]; exact List.getElem?_eq_getElem hlt) hu
 obtain ⟨hset, hsl⟩ := Y3l hfit (List.getElem?_eq_getElem hlt)
 rw [Nat.zero_add] at hsl
 rw [Y2y, if_pos (show l < (cs r).length by rw [<- h2]; exact hlt)]
 generalize ls[l] = lo at *
 obtain ⟨t1, x1, m1⟩ := lo
 obtain ⟨t2, x2, m2⟩ := lf
 simp only [Leaf.dat, Sigma.mk.injEq] at hd
 obtain ⟨rfl, hd⟩ := hd
 have hd : x1 = x2 := eq_of_heq hd
 subst hd
 have hold : ∃ lv, m1 = .at_ lv /\ Rep (RoS c (SS env noP tmps vs w cs bs)) w t1 lv [u] x1 (bs r (l + 1)) := by
  cases m1 with
  | at_ lv => exact ⟨lv, rfl, h5.rep⟩
  | bor _ _ _ => simp [Mode.settled] at hset
  | dead => simp [Mode.settled] at hset
 obtain ⟨lv, rfl, hrep⟩ := hold
 rcases Y1z b.md t x 0 l _ hl with ⟨hf, hm⟩ | ⟨⟨e0, τ, hs⟩, hm⟩
 ·simp only at hf hm
  subst hm
  obtain ⟨q1, q2⟩ := Rep.flat (S' := S) (w' := w) (m' := .ro) hf hrep
  refine ⟨.ro, rfl, ?_⟩
  rw [q1]
  split <;> exact q2
 ·simp only at hs hm
  rw [Nat.zero_add] at hm
  have hS' : ∀ k, RoS c (SS env noP tmps vs w cs bs) k -> k < w.heap.size -> S k := hS
  cases hsx : (slotAt b.lv l).isFx with
  | true =>
   rw [if_pos rfl]
   refine ⟨.ro, ?_, ?_⟩
   ·rw [hm]; unfold BoxSig.md; cases hq : slotAt b.lv l <;> rw [hq] at hsx <;> first | rfl | cases hsx
   ·exact Rep.roS hrep (fun k hk hl => hS' k hk hl) (hfx l hsx)
  | false =>
   rw [if_neg (by simp)]
   have hmm := (hsl e0 τ hs).resolve_left (by rw [hsx]; simp)
   refine ⟨lv, ?_, Rep.move (fun k hk hl => ⟨hS' k hk hl, rfl⟩) (fun _ _ => rfl) hrep⟩
   rw [hm, <- hmm]
end
end Go.FP

namespace Go.FP
open Go.RowKit
section
variable {P : Program} {o : Oper} {a : Act} {w : World} {R : Type} {K : Env -> Option R} {rr : R} {next : Act -> World -> Prop} {Q : Exit -> Act -> World -> Prop} {c : Cx} {d : Nat} {env : Env} {caps : FuncId -> List Ty} {orc : Orc}
theorem Ycu {cl : Call} {f : FuncId} {extra : List AV} {ex : List Value} (hop : o.op = .call cl) (hdst : o.dst = some d) (hr : RE c env a.tmps w) (hd : d < env.length)
  (hrun : Enterable P f -> (execOp a.eval o).run P w = .ok (.enter f (cl.args.map (evT a.tmps) ++ ex.toArray)) w) (hex : ∀ vs cs bs, Rel c (SS env noP a.tmps vs w cs bs) -> ValCs c (SS env noP a.tmps vs w cs bs) extra ex)
  {sg : Sig} {b : BoxSig} (hO : ∀ args q x, orc f args = some q -> q.run = some x -> Enterable P f /\ ∃ t x0 y ys, nthL args b.k = some (.ptr t x0) /\ q.pk x = ⟨t, y⟩ :: ys /\ FnSpecBox P f sg.results b t x0 args y ys)
  (hK : callB caps orc (some d) f sg b cl.args.toList extra env K = some rr) (hn : Next c a K rr env.length next) : o.wp P a w next Q := by
 unfold callB at hK
 simp only at hK
 split at hK
 ·rename_i r t hk1 hk2
  split at hK
  ·rename_i e ls hg
   split at hK
   ·rename_i hc
    obtain ⟨⟨⟨hid, hty⟩, hfit, hsub⟩, ⟨hl1, hl2⟩, hap, hcalm⟩ := hc
    split at hK
    ·simp at hK
    ·rename_i rvs hrv
     split at hK
     ·simp at hK
     ·rename_i q hq
      obtain ⟨z0, hres0, hK⟩ := Option.bind_eq_some_iff.1 hK
      obtain ⟨hent, t0, x0, y, ys, e1, e2, hspec⟩ := hO rvs q z0 hq hres0
      obtain ⟨x, hx1, hx2⟩ := Y94 hrv hk2 hk1
      rw [hx1] at e1
      simp only [Option.some.injEq, RV.ptr.injEq] at e1
      obtain ⟨rfl, e1⟩ := e1
      have e1 : x = x0 := eq_of_heq e1
      subst e1
      rw [e2] at hK
      simp only [dif_pos] at hK
      cases hra : resAV sg.results ys with
      | none => rw [hra] at hK; simp at hK
      | some av =>
       rw [hra] at hK
       simp only at hK
       have has : asm t ls = some (x, []) := by
        unfold ptrOf at hx2
        simp only [hg] at hx2
        split at hx2
        ·rename_i y' hy
         split at hx2
         ·simp only [Option.some.injEq] at hx2
          subst hx2; exact hy
         ·simp at hx2
        ·simp at hx2
       obtain ⟨vs, hlen, cs, bs, hrel, hno⟩ := hr
       obtain ⟨B, htm, hB0, hBh, hll, htail, hleaf0, hlx, hLvs⟩ := Yb6 hlen hrel hg hid hfit has
       generalize hvs : rdArgs env sg.params cl.args.toList ++ extra = avs at *
       have hargl : cl.args.toList.length <= sg.params.length := by rw [<- hl1, hl2]; omega
       have hvals : ValCs c (SS env noP a.tmps vs w cs bs) avs (cl.args.toList.map (evT a.tmps) ++ ex) := by
        rw [<- hvs]
        exact (Y3j hlen hrel hargl).1.append (hex vs cs bs hrel)
       obtain ⟨u, _, hu1, hu2⟩ := Y7x hvals hk1
       obtain ⟨e', ls', B', p1, p2, p3⟩ := hu2
       have hrl : r < env.length := Yx hg
       have p2 : a.tmps.getD r undef = .pointer (some ⟨B', 0, none⟩) := by rw [<- p2]; exact (if_pos (by omega)).symm
       have hBB : B = B' := by rw [htm] at p2; simpa using p2
       subst hBB
       rw [p3] at hu1
       have hapo : ∀ v ∈ dropAt b.k avs, (∀ q ∈ v.refs, q.1 ≠ r) := fun v hv => by
        rcases Y64 (List.all_eq_true.1 hap v hv) with ⟨f, cps, rfl⟩ | h
        ·simp [AV.refs]
        ·exact (Y63 h).1
       let S : Nat -> Prop := fun k => RoS c (SS env noP a.tmps vs w cs bs) k \/ (∃ v ∈ dropAt b.k avs, ∃ q ∈ v.refs, k ∈ bs q.1 (q.2 + 1)) \/ (∃ v ∈ dropAt b.k avs, ∃ q ∈ v.ptrs, q ≠ r /\ ∃ l, k ∈ bs q l) \/ ∃ l, (slotAt b.lv l).isFx = true /\ k ∈ bs r (l + 1)
       have hrvr := Y97 (S := S) hrel (fun k hk => .inl hk) (show (SS env noP a.tmps vs w cs bs).tm r = _ from (if_pos (show r < a.tmps.size by omega)).trans htm) hvals hrv ⟨_, hk1⟩ (fun v hv => List.all_eq_true.1 hap v hv) (fun v hv q hq k hk => .inr (.inl ⟨v, hv, q, hq, hk⟩)) (fun v hv q hq hqr l k hk => .inr (.inr (.inl ⟨v, hv, q, hq, hqr, l, hk⟩)))
       have hLv := hLvs S (fun k hk _ => .inl hk) (fun l hl k hk => .inr (.inr (.inr ⟨l, hl, hk⟩)))
       let F : Nat -> List Nat := fun l => if (slotAt b.lv l).isFx then [] else bs r (l + 1)
       let bds : List (List Nat) := (List.range (cs r).length).map F
       have hF : ∀ l k, k ∈ F l -> (slotAt b.lv l).isFx = false /\ k ∈ bs r (l + 1) := by
        intro l k hk
        simp only [F] at hk
        split at hk
        ·simp at hk
        ·rename_i h; exact ⟨by simpa using h, hk⟩
       have hin : ∀ k ∈ bds.flatten, ∃ l, (slotAt b.lv l).isFx = false /\ k ∈ bs r (l + 1) := fun k hk => by
        obtain ⟨l, _, h⟩ := Y2z.1 hk
        exact ⟨l, hF l k h⟩
       have hBin : B ∈ bs r 0 := by rw [hB0]; simp
       have hO1 : ∀ k ∈ B :: bds.flatten, ∃ l, k ∈ bs r l := fun k hk => by
        rcases List.mem_cons.1 hk with rfl | hk
        ·exact ⟨0, hBin⟩
        ·obtain ⟨l, _, h⟩ := hin k hk; exact ⟨l + 1, h⟩
       have hnd : (B :: bds.flatten).Nodup := by
        refine List.nodup_cons.2 ⟨fun h => ?_, Y3t (fun l => ?_) (fun l l' k h1 h2 => ?_) _⟩
        ·obtain ⟨l, _, h⟩ := hin B h
         have := (hrel.disj _ _ _ _ _ hBin h).2
         omega
        ·simp only [F]; split
         ·exact List.nodup_nil
         ·exact hrel.nodup _ _
        ·have := (hrel.disj _ _ _ _ _ (hF l k h1).2 (hF l' k h2).2).2
         omega
       have hSO : ∀ k, S k -> k ∉ B :: bds.flatten := by
        intro k hk hm
        obtain ⟨l0, hl0⟩ := hO1 k hm
        rcases hk with hk | ⟨v, hv, q, hq, hk⟩ | ⟨v, hv, q, hq, hqr, l, hk⟩ | ⟨l, hl, hk⟩
        ·exact hk.1 _ _ hl0
        ·exact hapo v hv q hq (hrel.disj _ _ _ _ _ hk hl0).1
        ·exact hqr (hrel.disj _ _ _ _ _ hk hl0).1
        ·rcases List.mem_cons.1 hm with rfl | hm
         ·have := (hrel.disj _ _ _ _ _ hk hBin).2; omega
         ·obtain ⟨l1, hf1, h1⟩ := hin k hm
          have := (hrel.disj _ _ _ _ _ hk h1).2
          obtain rfl : l = l1 := by omega
          rw [hl] at hf1; cases hf1
       unfold Oper.wp
       rw [hrun hent]
       show Calls P f _ w _
       have hargs : cl.args.map (evT a.tmps) ++ ex.toArray = (cl.args.toList.map (evT a.tmps) ++ ex).toArray := by
        rw [<- List.append_toArray, <- List.map_toArray, Array.toArray_toList]
       rw [hargs]
       refine Calls.mono (hspec S w _ B (cs r) bds c.base hu1 hBh hLv hnd (fun k hk => by obtain ⟨l, h⟩ := hO1 k hk; exact (hrel.own _ _ _ h).1.1) hrel.base hrvr hSO) ?_
       rintro e0 w' ⟨ch', bds', chs, bsx, rfl, hbel, hsame, hBh', hcl, hfx, hLv', hfxb, hnd', hnew', hresR⟩
       show next (a.put o.dst (resVal sg.results chs)) w'
       rw [hdst]
       obtain ⟨hL1, hL2, hL3⟩ := hLv'
       -- the result, with what it may share
       have hgood : ∃ Sr : Nat -> Prop, ResRel Sr w.heap.size w' (B :: (bds'.flatten ++ bsx)) sg.results ys chs bsx /\ ((∀ k, ¬ Sr k) \/ (∀ k, Sr k -> S k \/ k ∈ B :: bds.flatten) /\ (dropAt b.k avs).all bareAV = true /\ boxFxRo b 0 ls = true) := by
        rcases hcalm with ⟨h1, _⟩ | h2
        ·exact ⟨fun _ => False, Y49 h1 hresR, .inl fun _ h => h⟩
        ·exact ⟨_, hresR, .inr ⟨fun k h => h, h2⟩⟩
       obtain ⟨Sr, hresR', hSr⟩ := hgood
       obtain ⟨k2, ls2, rfl, f1, f2, f3, bdsN, f4, f5, f6⟩ := Y53 (c := c) hresR' hra
       have hmode := Y4l hra
       obtain ⟨hBn, hnd2⟩ := List.nodup_cons.1 hnd'
       obtain ⟨hn1, hn2, hn3⟩ := List.nodup_append.1 hnd2
       obtain ⟨g1, g2⟩ := Y15 hn1
       rw [f5] at hn2
       obtain ⟨g3, g4⟩ := Y15 hn2
       have hly : (leaves t y b.md 0).length = ls.length := by rw [hL1, hcl, <- hll]
       let br : Nat -> List Nat := fun l => match l with
        | 0 => [B]
        | l + 1 => if (slotAt b.lv l).isFx then bs r (l + 1) else bds'.getD l []
       let bn : Nat -> List Nat := fun l => match l with
        | 0 => []
        | l + 1 => bdsN.getD l []
       have hfree : ∀ l k, (slotAt b.lv l).isFx = true -> k ∈ bs r (l + 1) -> k ∉ B :: (bds'.flatten ++ bsx) /\ k ∉ B :: bds.flatten := by
        intro l k hl hk
        have h0 : k ∉ B :: bds.flatten := hSO k (.inr (.inr (.inr ⟨l, hl, hk⟩)))
        refine ⟨fun hm => ?_, h0⟩
        rcases List.mem_cons.1 hm with rfl | hm
        ·exact h0 (by simp)
        ·rcases hnew' k hm with h | h
         ·exact h0 (List.mem_cons_of_mem _ h)
         ·have := (hrel.own _ _ _ hk).2; exact absurd h (by show ¬ w.heap.size <= k; exact Nat.not_le.2 this)
       have hmemN : ∀ l k, k ∈ bdsN.getD l [] -> k ∈ bds'.flatten ++ bsx := fun l k hk => List.mem_append_right _ (by rw [f5]; exact Yo hk)
       have hmemA : ∀ l k, k ∈ bds'.getD l [] -> k ∈ bds'.flatten ++ bsx := fun l k hk => List.mem_append_left _ (Yo hk)
       have hback : ∀ k ∈ bds'.flatten ++ bsx, w.heap.size <= k \/ ∃ l', k ∈ bs r l' := fun k hk => (hnew' k hk).elim (fun h => .inr (let ⟨l, _, h⟩ := hin k h; ⟨l + 1, h⟩)) .inl
       have hsz : w.heap.size <= w'.heap.size := hbel.size
       have hRP := RP.renewR (vs := vs) hlen hrel hno hg hB0 htm hbel (ch' := ch') (br := br) (bn := bn) (ns := mixLs b 0 ls (leaves t y b.md 0)) (k2 := k2) (ls2 := ls2) (rv := resVal sg.results chs) (cells2 := chs.flatten)
        (fun k hk hnk => hsame k hk (fun hm => by obtain ⟨l, h⟩ := hO1 k hm; exact hnk l h)) (by rw [hid]; exact hBh') (fun l hl => hfx l (Y5a hsub hl)) rfl (by rw [Y3s hly.symm, <- hly]; exact hL1) (fun l hl => ?_) (fun l k hk => ?_) (fun l k hk => ?_) (fun l l' k h1 h2 => ?_) (fun l l' k h1 h2 => ?_) (fun l l' k h1 h2 => ?_) (fun l => ?_) (fun l => ?_) (fun lf hlf => ?_) f3 (fun hkeep => ?_)
       ·have hbl : (renewBox r (.box e) (mixLs b 0 ls (leaves t y b.md 0)) env).length = env.length := by unfold renewBox; rw [Y5, Y8]
        rw [<- hbl] at hRP
        have := RE.commit hRP (by rw [hbl]; exact hd)
        rw [Y0] at this
        exact hn _ _ _ hK this (by rw [Y1r, hbl]) rfl
       ·rw [Y3s hly.symm] at hl
        show (if (slotAt b.lv l).isFx then bs r (l + 1) else bds'.getD l []) = []
        split
        ·exact htail l hl
        ·rw [List.getD_eq_getElem?_getD, List.getElem?_eq_none (by rw [hL2, <- hL1, hly]; exact hl)]; rfl
       ·cases l with
        | zero =>
         obtain rfl : k = B := by simpa [br] using hk
         exact ⟨(Array.getElem?_eq_some_iff.1 hBh').1, .inr ⟨0, hBin⟩⟩
        | succ l =>
         have hk : k ∈ (if (slotAt b.lv l).isFx then bs r (l + 1) else bds'.getD l []) := hk
         cases hs : (slotAt b.lv l).isFx with
         | true => rw [if_pos hs] at hk; exact ⟨Nat.lt_of_lt_of_le (hrel.own _ _ _ hk).2 hsz, .inr ⟨l + 1, hk⟩⟩
         | false =>
          rw [if_neg (by rw [hs]; simp)] at hk
          have hlt := Y7i hk
          obtain ⟨m, _, hrep⟩ := hL3 l _ _ hs (List.getElem?_eq_getElem (show l < (leaves t y b.md 0).length by rw [hL1, <- hL2]; exact hlt)) (List.getElem?_eq_getElem (show l < ch'.length by rw [<- hL2]; exact hlt))
          exact ⟨Rep.lt hrep k hk, hback k (hmemA l k hk)⟩
       ·cases l with
        | zero => simp [bn] at hk
        | succ l =>
         have hk : k ∈ bdsN.getD l [] := hk
         have hlt := Y7i hk
         obtain ⟨m, _, hrep⟩ := f6 l _ _ (List.getElem?_eq_getElem (show l < ls2.length by omega)) (List.getElem?_eq_getElem (show l < chs.flatten.length by omega))
         exact ⟨Rep.lt hrep k hk, hback k (hmemN l k hk)⟩
       ·cases l with
        | zero =>
         obtain rfl : k = B := by simpa [br] using h1
         cases l' with
         | zero => rfl
         | succ l' =>
          exfalso
          have h2 : k ∈ (if (slotAt b.lv l').isFx then bs r (l' + 1) else bds'.getD l' []) := h2
          split at h2
          ·have := (hrel.disj _ _ _ _ _ hBin h2).2; omega
          ·exact hBn (hmemA l' k h2)
        | succ l =>
         replace h1 : k ∈ (if (slotAt b.lv l).isFx then bs r (l + 1) else bds'.getD l []) := h1
         cases l' with
         | zero =>
          have hkB : k = B := by simpa [br] using h2
          exfalso
          split at h1
          ·have := (hrel.disj _ _ _ _ _ (hkB ▸ hBin) h1).2; omega
          ·exact hBn (hkB ▸ hmemA l k h1)
         | succ l' =>
          have h2 : k ∈ (if (slotAt b.lv l').isFx then bs r (l' + 1) else bds'.getD l' []) := h2
          split at h1
          ·rename_i s1
           split at h2
           ·exact (hrel.disj _ _ _ _ _ h1 h2).2
           ·exact absurd (List.mem_cons_of_mem _ (hmemA l' k h2)) (hfree l k s1 h1).1
          ·split at h2
           ·rename_i s2
            exact absurd (List.mem_cons_of_mem _ (hmemA l k h1)) (hfree l' k s2 h2).1
           ·rw [g2 l l' k h1 h2]
       ·cases l with
        | zero => simp [bn] at h1
        | succ l => cases l' with
         | zero => simp [bn] at h2
         | succ l' => rw [g4 l l' k h1 h2]
       ·cases l' with
        | zero => simp [bn] at h2
        | succ l' =>
         have h2 : k ∈ bdsN.getD l' [] := h2
         have hkx : k ∈ bsx := by rw [f5]; exact Yo h2
         cases l with
         | zero =>
          obtain rfl : k = B := by simpa [br] using h1
          exact hBn (List.mem_append_right _ hkx)
         | succ l =>
          have h1 : k ∈ (if (slotAt b.lv l).isFx then bs r (l + 1) else bds'.getD l []) := h1
          split at h1
          ·rename_i s1
           exact (hfree l k s1 h1).1 (List.mem_cons_of_mem _ (List.mem_append_right _ hkx))
          ·exact hn3 k (Yo h1) k hkx rfl
       ·cases l with
        | zero => simp [br]
        | succ l =>
         show (if (slotAt b.lv l).isFx then bs r (l + 1) else bds'.getD l []).Nodup
         split
         ·exact hrel.nodup _ _
         ·exact g1 l
       ·cases l with
        | zero => exact List.nodup_nil
        | succ l => exact g3 l
       ·obtain ⟨l, hl⟩ := List.getElem?_of_mem hlf
        have hsettled : lf.m.settled = true := by
         rcases Y6e hl with ⟨_, h⟩ | ⟨_, h⟩
         ·exact (Y3l hfit h).1
         ·rcases Y1z b.md t y 0 l lf h with ⟨_, hm⟩ | ⟨_, hm⟩
          ·rw [hm]; rfl
          ·rw [hm]; unfold BoxSig.md; cases slotAt b.lv (0 + l) <;> rfl
        obtain ⟨t1, x1, m1⟩ := lf
        cases m1 with
        | at_ _ => rfl
        | bor _ _ _ => simp [Mode.settled] at hsettled
        | dead => rfl
       ·-- what may be read behind the call
        have eR : ∀ (s' : St), s'.bs = upd (upd bs r br) env.length bn -> s'.bs r = br := fun s' e => by rw [e, Y2 _ _ (Nat.ne_of_lt hrl), Y0]
        have hown : ∀ p l k, k ∈ (upd (upd bs r br) env.length bn) p l -> k ∈ bs p l \/ k ∈ B :: (bds'.flatten ++ bsx) := by
         intro p l k hk
         by_cases hpN : p = env.length
         ·subst hpN
          rw [Y0] at hk
          cases l with
          | zero => simp [bn] at hk
          | succ l => exact .inr (List.mem_cons_of_mem _ (hmemN l k hk))
         ·rw [Y2 _ _ hpN] at hk
          by_cases hpr : p = r
          ·subst hpr
           rw [Y0] at hk
           cases l with
           | zero => exact .inl (by rw [hB0]; exact hk)
           | succ l =>
            replace hk : k ∈ (if (slotAt b.lv l).isFx then bs p (l + 1) else bds'.getD l []) := hk
            split at hk
            ·exact .inl hk
            ·exact .inr (List.mem_cons_of_mem _ (hmemA l k hk))
          ·rw [Y2 _ _ hpr] at hk
           exact .inl hk
        have hown2 : ∀ l k, k ∈ bs r (l + 1) -> (slotAt b.lv l).isFx = false -> k ∉ B :: (bds'.flatten ++ bsx) -> ∀ p l', k ∉ (upd (upd bs r br) env.length bn) p l' := by
         intro l k hk hs hnk p l' hm
         rcases hown p l' k hm with h | h
         ·obtain ⟨rfl, rfl⟩ := hrel.disj _ _ _ _ _ h hk
          rw [Y2 _ _ (Nat.ne_of_lt hrl), Y0] at hm
          replace hm : k ∈ (if (slotAt b.lv l).isFx then bs p (l + 1) else bds'.getD l []) := hm
          rw [if_neg (by rw [hs]; simp)] at hm
          exact hnk (List.mem_cons_of_mem _ (hmemA l k hm))
         ·exact hnk h
        have hnewk : ∀ k, w.heap.size <= k -> k ∉ B :: (bds'.flatten ++ bsx) -> ∀ p l', k ∉ (upd (upd bs r br) env.length bn) p l' := by
         intro k hk hnk p l' hm
         rcases hown p l' k hm with h | h
         ·exact absurd (hrel.own _ _ _ h).2 (Nat.not_lt.2 hk)
         ·exact hnk h
        have hRo : (dropAt b.k avs).all bareAV = true -> boxFxRo b 0 ls = true -> ∀ k, (S k \/ k ∈ bds.flatten \/ w.heap.size <= k) -> k ∉ B :: (bds'.flatten ++ bsx) -> (∀ p l', k ∉ (upd (upd bs r br) env.length bn) p l') /\ (c.S0 k \/ c.mine k) := by
         intro hb1 hb2 k hk hnk
         have hbare : ∀ v ∈ dropAt b.k avs, v.refs = [] /\ v.ptrs = [] := fun v hv => Ya6 (List.all_eq_true.1 hb1 v hv)
         rcases hk with hk | hk | hk
         ·rcases hk with hk | ⟨v, hv, q, hq, _⟩ | ⟨v, hv, q, hq, _⟩ | ⟨l, hl, hk⟩
          ·exact ⟨fun p l' hm => (hown p l' k hm).elim (hk.1 p l') hnk, hk.2⟩
          ·rw [(hbare v hv).1] at hq; simp at hq
          ·rw [(hbare v hv).2] at hq; simp at hq
          ·exfalso
           by_cases hlt : l < ls.length
           ·have hno := Y70 (n := 0) (l := l) hb2 (List.getElem?_eq_getElem hlt) (by rw [Nat.zero_add]; exact hl)
            have := (hleaf0 l _ _ (List.getElem?_eq_getElem hlt) (List.getElem?_eq_getElem (show l < (cs r).length by omega))).held hno
            have h0 : bs r (l + 1) = [] := this.1
            rw [h0] at hk; simp at hk
           ·rw [htail l (by omega)] at hk; simp at hk
         ·obtain ⟨l, hs, h⟩ := hin k hk
          exact ⟨hown2 l k h hs hnk, .inr (hrel.own _ _ _ h).1⟩
         ·exact ⟨hnewk k hk hnk, .inr (hrel.mine_new hk)⟩
        refine ⟨fun l lf u hl hu => ?_, ?_⟩
        ·have ebr : (upd (upd bs r br) env.length bn) r (l + 1) = if (slotAt b.lv l).isFx then bs r (l + 1) else bds'.getD l [] := by rw [Y2 _ _ (Nat.ne_of_lt hrl), Y0]
         rcases Y6e hl with ⟨s1, h1⟩ | ⟨s1, h1⟩
         ·rw [Nat.zero_add] at s1
          have h5 := hleaf0 l lf u h1 (by rw [<- hfx l s1]; exact hu)
          have hset := (Y3l hfit h1).1
          have hch : lf.chg noG = lf := by
           obtain ⟨t1, x1, m1⟩ := lf
           cases m1 <;> rfl
          have hrefs : lf.refs = [] := by
           obtain ⟨t1, x1, m1⟩ := lf
           cases m1 with
           | at_ _ => rfl
           | bor _ _ _ => simp [Mode.settled] at hset
           | dead => rfl
          have h6 := LeafRel.chg (g := noG) (L := fun _ _ => False) (r' := r) hkeep (fun _ _ _ _ _ _ h => h.elim) (fun q hq => by rw [hrefs] at hq; simp at hq) (by show (upd (upd bs r br) env.length bn) r (l + 1) = _; rw [ebr, if_pos s1]) (fun k hk => hsame k (hrel.own _ _ _ hk).2 (hfree l k s1 hk).2) h5
          rw [hch] at h6
          exact h6
         ·rw [Nat.zero_add] at s1
          obtain ⟨m, hm, hrep⟩ := hL3 l lf u s1 h1 hu
          have hmd := Y1z b.md t y 0 l lf h1
          rw [Nat.zero_add] at hmd
          have hlt : l < ls.length := by rw [<- hly]; exact (List.getElem?_eq_some_iff.1 h1).1
          have htt : ls[l].t = lf.t := by
           have q1 : ls.map Leaf.t = flat t := by simpa [typedAs] using hty
           have q2 := Yk t y b.md 0
           have q3 := congrArg (fun z => z[l]?) (q1.trans q2.symm)
           simp only [List.getElem?_map, h1, List.getElem?_eq_getElem hlt, Option.map_some, Option.some.injEq] at q3
           exact q3
          obtain ⟨t1, x1, m1⟩ := lf
          simp only at hm hrep hmd htt
          subst hm
          refine LeafRel.of_rep ?_ ?_
          ·rcases hmd with ⟨_, h⟩ | ⟨_, h⟩
           ·obtain rfl : m = .ro := by simpa using h
            trivial
           ·unfold BoxSig.md at h
            cases hq : slotAt b.lv l <;> rw [hq] at h <;> (simp only [Slot.mode, Mode.at_.injEq] at h; subst h; trivial)
          ·show Rep _ w' t1 m [u] x1 ((upd (upd bs r br) env.length bn) r (l + 1))
           rw [ebr, if_neg (by rw [s1]; simp)]
           rcases hcalm with ⟨_, hcm⟩ | ⟨hb1, hb2⟩
           ·rcases hmd with ⟨hf, _⟩ | ⟨⟨e0, τ, hs⟩, h⟩
            ·obtain ⟨q1, q2⟩ := Rep.flat (w' := w') (m' := m) hf hrep
             rw [q1]; exact q2
            ·have := Y6z hcm (List.getElem?_eq_getElem hlt) e0 τ (htt.trans hs)
             rw [Nat.zero_add] at this
             have hdp : slotAt b.lv l = .dp := this.resolve_left (fun e => by rw [e] at s1; cases s1)
             unfold BoxSig.md at h
             rw [hdp] at h
             obtain rfl : m = .dp := by simpa [Slot.mode] using h
             exact Rep.dpS hrep
           ·exact Rep.move (fun k hk _ => ⟨hRo hb1 hb2 k hk.1 hk.2, rfl⟩) (fun _ _ => rfl) hrep
        ·refine ⟨?_, ?_, fun l hl => ?_, fun l lf u hl hu => ?_⟩
         ·show KCells c w' ((upd (upd bs r br) env.length bn) env.length 0) k2 _ ((upd (upd cs r ch') env.length chs.flatten) env.length)
          rw [Y0, Y0]
          exact f1.bare rfl
         ·show ls2.length = ((upd (upd cs r ch') env.length chs.flatten) env.length).length
          rw [Y0]; exact f2
         ·show (upd (upd bs r br) env.length bn) env.length (l + 1) = []
          rw [Y0]
          show bdsN.getD l [] = []
          rw [List.getD_eq_getElem?_getD, List.getElem?_eq_none (by omega)]; rfl
         ·replace hu : chs.flatten[l]? = some u := by
           have : ((upd (upd cs r ch') env.length chs.flatten) env.length)[l]? = some u := hu
           rwa [Y0] at this
          rw [Y1] at hl
          obtain ⟨m, hm, hrep⟩ := f6 l lf u hl hu
          have hmd := hmode lf (List.mem_of_getElem? hl)
          obtain ⟨t1, x1, m1⟩ := lf
          simp only at hm hrep
          subst hm
          refine LeafRel.of_rep (by cases m <;> first | trivial | exact absurd rfl (hmd _)) ?_
          show Rep _ w' t1 m [u] x1 ((upd (upd bs r br) env.length bn) env.length (l + 1))
          rw [Y0]
          show Rep _ w' t1 m [u] x1 (bdsN.getD l [])
          refine Rep.move (fun k hk _ => ⟨?_, rfl⟩) (fun _ _ => rfl) hrep
          obtain ⟨hk1, hk2⟩ := hk
          rcases hSr with hSr | ⟨hSr, hb1, hb2⟩
          ·have hk1 := hk1.resolve_left (hSr k)
           exact ⟨hnewk k hk1 hk2, .inr (hrel.mine_new hk1)⟩
          ·exact hRo hb1 hb2 k (hk1.elim (fun h => (hSr k h).imp id (fun h => .inl ((List.mem_cons.1 h).resolve_left (fun e => hk2 (by rw [e]; simp))))) (fun h => .inr (.inr h))) hk2
   ·simp at hK
  ·simp at hK
 ·simp at hK
end
end Go.FP

namespace Go.FP
open Go.RowKit
section
variable {P : Program} {o : Oper} {a : Act} {w : World} {R : Type} {K : Env -> Option R} {r : R} {next : Act -> World -> Prop} {Q : Exit -> Act -> World -> Prop} {c : Cx} {d : Nat} {T : Tab} {env : Env} {sig : FuncId -> Option Sig} {caps : FuncId -> List Ty} {orc : Orc}
theorem Y4o (hO : OrcOk P sig orc) {cl : Call} {f : FuncId} {extra : List AV} {ex : List Value} (hop : o.op = .call cl) (hdst : o.dst = some d) (hr : RE c env a.tmps w) (hd : d < env.length)
  (hrun : Enterable P f -> (execOp a.eval o).run P w = .ok (.enter f (cl.args.map (evT a.tmps) ++ ex.toArray)) w) (hex : ∀ vs cs bs, Rel c (SS env noP a.tmps vs w cs bs) -> ValCs c (SS env noP a.tmps vs w cs bs) extra ex) (hexr : ∀ v ∈ extra, (∀ q ∈ v.refs, q.1 < env.length))
  (hK : call1 sig caps orc (some d) f cl.args.toList extra env K = some r) (hn : Next c a K r env.length next) : o.wp P a w next Q := by
 unfold call1 at hK
 split at hK
 ·simp at hK
 ·rename_i sg hsg
  split at hK
  ·rename_i b hb
   exact Ycu hop hdst hr hd hrun hex (fun args q x h1 h2 => by
    have := hO f sg args q x hsg h1 h2
    rw [hb] at this
    exact this) hK hn
  rename_i hbx
  split at hK
  ·rename_i id hnb
   exact Ycj hop hdst hr hd hrun hex hexr (fun args q x h1 h2 => by
    have := hO f sg args q x hsg h1 h2
    rw [hbx, hnb] at this
    exact this) hK hn
  rename_i hnb
  have hbx := And.intro hbx hnb
  split at hK
  ·rename_i hm
   split at hK
   ·rename_i how
    exact Yck hO hop hdst hr hd hrun hex hsg hbx hm how hK hn
   ·rename_i how
    simp only at hK
    split at hK
    ·rename_i hc
     split at hK
     ·simp at hK
     ·rename_i rvs hrv
      split at hK
      ·simp at hK
      rename_i q hq
      exact Yd8 hO hop hdst hr hd hrun hex hexr hsg hbx hm (by simpa using how) hc.1 hc.2.1 hc.2.2 hrv hq hK hn
    ·simp at hK
  ·rename_i hm
   split at hK
   ·rename_i how
    exact Ycs hO hop hdst hr hd hrun hex hsg hbx hm how hK hn
   ·rename_i how
    exact Ycr hO hop hdst hr hd hrun hex hsg hbx hm (by simpa using how) hK hn
theorem Ya7 (hT : TabOk P T) (hO : OrcOk P sig orc) (hdst : o.dst = some d) (hr : RE c env a.tmps w) (hd : d < env.length) (hK : evVal T sig caps orc d o env K = some r) (hn : Next c a K r env.length next) : o.wp P a w next Q := by
 cases hop : o.op with
 | move x =>
  simp only [evVal, hop] at hK
  exact Yd4 hop hdst hr hd hK hn
 | assign x =>
  simp only [evVal, hop] at hK
  split at hK
  ·exact Yao hop hdst hr hd hK hn
  split at hK
  ·rename_i env' v ht
   exact Ybr hop hdst hr hd ht hK hn
  ·simp at hK
 | pick cc x y =>
  simp only [evVal, hop] at hK
  split at hK
  ·rename_i t hb
   exact Yd5 hop hdst hr hd hb hK hn
  ·simp at hK
 | alloc e =>
  simp only [evVal, hop] at hK
  split at hK
  ·rename_i τ he
   exact Yci hT hop hdst hr hd he hK hn
  ·split at hK
   ·rename_i he
    exact Ya2 hT hop hdst hr hd he hK hn
   ·simp at hK
 | box e x =>
  simp only [evVal, hop] at hK
  split at hK
  ·rename_i τ he
   split at hK
   ·rename_i env' ls ht
    exact Ydj hT hop hdst hr hd he ht hK hn
   ·simp at hK
  ·simp at hK
 | build t parts =>
  simp only [evVal, hop] at hK
  split at hK
  ·rename_i τ he
   split at hK
   ·rename_i ha
    split at hK
    ·rename_i env' ls hb
     exact Ycl hT hop hdst hr hd he ha hb hK hn
    ·simp at hK
   ·simp at hK
  ·simp at hK
 | buildSlice t n parts =>
  simp only [evVal, hop] at hK
  split at hK
  ·rename_i te he
   split at hK
   ·rename_i hc
    split at hK
    ·rename_i env' xs dp hb
     exact Y87 hT hop hdst hr hd he hc.1 hc.2.1 hc.2.2 hb hK hn
    ·simp at hK
   ·simp at hK
  ·simp at hK
 | load t x =>
  simp only [evVal, hop] at hK
  split at hK
  ·rename_i τ he
   split at hK
   ·rename_i q off hx
    split at hK
    ·rename_i e ls hb
     split at hK
     ·rename_i hty
      exact Y8p hT hop hdst hr hd he hx hb hty hK hn
     ·simp at hK
    ·simp at hK
   ·rename_i ls wr hx
    split at hK
    ·rename_i hty
     exact Y8q hT hop hdst hr hd he hx hty hK hn
    ·simp at hK
   ·simp at hK
  ·split at hK
   ·rename_i he
    split at hK
    ·rename_i f cs hx
     exact Yav hT hop hdst hr hd he hx hK hn
    ·simp at hK
   ·simp at hK
 | fieldAddr s x f =>
  simp only [evVal, hop] at hK
  split at hK
  ·rename_i off τ hf
   split at hK
   ·rename_i q o' hx
    exact Y5x hT hop hdst hr hd hf hx hK hn
   ·rename_i ls wr hx
    cases wr with
    | none => exact Y3g hT hop hdst hr hd hf hx hK hn
    | some z => obtain ⟨_, _, _, _, _⟩ := z; exact Y3g hT hop hdst hr hd hf hx hK hn
   ·simp at hK
  ·simp at hK
 | field s x f =>
  simp only [evVal, hop] at hK
  split at hK
  ·rename_i off τ hf
   split at hK
   ·rename_i ls hx
    split at hK
    ·rename_i hty
     exact Ych hT hop hdst hr hd hf hx hty hK hn
    ·simp at hK
   ·simp at hK
  ·simp at hK
 | indexAddr t x i =>
  simp only [evVal, hop] at hK
  split at hK
  ·rename_i te he
   split at hK
   ·rename_i lx n hx hi
    split at hK
    ·rename_i xs hxs
     split at hK
     ·simp at hK
     ·rename_i hl
      obtain ⟨h0, hK⟩ := Y1g hK
      simp only [Bool.and_eq_true, decide_eq_true_eq] at h0
      exact Y8o hT hop hdst hr hd he hx hi hxs (by simpa using hl) h0.1 h0.2 hK hn
    ·simp at hK
   ·simp at hK
  ·simp at hK
 | index t x i =>
  simp only [evVal, hop] at hK
  split at hK
  ·rename_i s k n ht hs hi
   exact Ycf hT hop hdst hr hd ht hs hi hK hn
  ·simp at hK
 | extract x i =>
  simp only [evVal, hop] at hK
  split at hK
  ·rename_i s hx
   split at hK
   ·rename_i sh ls hs
    split at hK
    ·rename_i off agg n ho
     split at hK
     ·rename_i hlive
      split at hK
      ·split at hK
       ·rename_i hbare
        exact Y7h hop hdst hr hd hs ho hlive hbare hK hn
       ·simp at hK
      ·rename_i hno
       exact Y86 hop hdst hr hd hs ho (by simpa using hno) hK hn
     ·simp at hK
    ·simp at hK
   ·simp at hK
  ·simp at hK
 | binOp op t x y t' =>
  simp only [evVal, hop] at hK
  exact Yce hT hop hdst hr hd hK hn
 | unOp op t x =>
  simp only [evVal, hop] at hK
  exact Yd6 hop hdst hr hd hK hn
 | convert s dt x =>
  simp only [evVal, hop] at hK
  split at hK
  ·rename_i k k' k2 n hs ht hi
   exact Yaq hT hop hdst hr hd hs ht hi hK hn
  ·split at hK
   ·rename_i b hb
    exact Yct hT hop hdst hr hd hb hK hn
   ·simp at hK
 | slice t x lo hi mx =>
  simp only [evVal, hop] at hK
  split at hK
  ·simp at hK
  ·split at hK
   ·rename_i lo' hi' hlo hhi
    split at hK
    ·rename_i s hs
     split at hK
     ·rename_i ht
      obtain ⟨h0, hK⟩ := Y1g hK
      simp only [Bool.and_eq_true, decide_eq_true_eq] at h0
      exact Y8y hT hop hdst hr hd ht hs hlo hhi h0.1 h0.2.1 h0.2.2 hK hn
     ·simp at hK
    ·split at hK
     ·rename_i te he
      split at hK
      ·rename_i lx hx
       split at hK
       ·rename_i xs hxs
        split at hK
        ·simp at hK
        ·rename_i hl
         obtain ⟨h0, hK⟩ := Y1g hK
         simp only [Bool.and_eq_true, decide_eq_true_eq] at h0
         exact Ycn hT hop hdst hr hd he hx hxs (by simpa using hl) hlo hhi h0.1 h0.2.1 h0.2.2 hK hn
       ·simp at hK
      ·simp at hK
     ·simp at hK
   ·simp at hK
 | makeSlice t l cc =>
  simp only [evVal, hop] at hK
  split at hK
  ·rename_i te n m he hl hc
   obtain ⟨h0, hK⟩ := Y1g hK
   simp only [Bool.and_eq_true, decide_eq_true_eq] at h0
   exact Y8x hT hop hdst hr hd he hl hc h0.1 h0.2.1 h0.2.2 hK hn
  ·simp at hK
 | makeFunc fn first captured =>
  cases fn with
  | func f =>
   simp only [evVal, hop] at hK
   split at hK
   ·rename_i hf
    split at hK
    ·rename_i cs hc
     exact Ya0 hop hdst hr hd hf hc hK hn
    ·simp at hK
   ·simp at hK
  | _ => simp [evVal, hop] at hK
 | nilCheck x =>
  simp only [evVal, hop] at hK
  split at hK
  ·rename_i q off hx
   exact Y69 hop hdst hr hd hx hK hn
  ·rename_i f cs hx
   exact Y6o hop hdst hr hd hx hK hn
  ·rename_i f xs hx
   exact Y6a hop hdst hr hd hx hK hn
  ·rename_i f cs hx
   exact Y6d hop hdst hr hd hx hK hn
  ·rename_i ls wr hx
   exact Y6b hop hdst hr hd hx hK hn
  ·simp at hK
 | call cl =>
  simp only [evVal, hop] at hK
  split at hK
  ·rename_i f hc
   refine Y4o hO (extra := []) (ex := []) hop hdst hr hd (fun he => ?_) (fun _ _ _ _ => rfl) (by simp) hK hn
   simp [execOp, hop, resolve, hc, Deferred.ofValue, invoke, Y6, evT, Y2j he]
  ·rename_i t hc
   split at hK
   ·rename_i f cs ht
    have htl : t < env.length := by
     apply Decidable.byContradiction
     intro h
     rw [Y16 env t (Nat.le_of_not_lt h)] at ht
     cases ht
    have hval : ∀ vs cs' bs, Rel c (SS env noP a.tmps vs w cs' bs) -> ∃ us, evT a.tmps (.tmp t) = .func (.func f) #[] us.toArray /\ PtrRels (SS env noP a.tmps vs w cs' bs) cs us := by
     intro vs cs' bs hrel
     have hav := hrel.av t
     have e1 : (SS env noP a.tmps vs w cs' bs).env t = .clo f cs := by show ovl env noP t = _; rw [Y7 htl]; exact ht
     have e2 : (SS env noP a.tmps vs w cs' bs).tm t = evT a.tmps (.tmp t) := if_pos (hr.choose_spec.len ▸ htl)
     rw [e1, e2] at hav
     exact hav.2
    obtain ⟨vs, hlen, cs', bs, hrel, hno⟩ := id hr
    obtain ⟨us, e1, e2⟩ := hval vs cs' bs hrel
    refine Y4o hO (ex := us) hop hdst hr hd (fun he => ?_) (fun vs2 cs2 bs2 hrel2 => ?_) (fun v hv => ?_) hK hn
    ·simp [execOp, hop, resolve, hc, Y6, e1, Deferred.ofValue, invoke, Y2j he]
    ·obtain ⟨us', f1, f2⟩ := hval vs2 cs2 bs2 hrel2
     rw [e1] at f1
     have : us = us' := by simpa using f1
     subst this
     have go : ∀ {cs : List (Nat × Nat)} {us : List Value}, PtrRels (SS env noP a.tmps vs2 w cs2 bs2) cs us -> ValCs c (SS env noP a.tmps vs2 w cs2 bs2) (cs.map fun c => AV.path c.1 c.2) us := by
      intro cs
      induction cs with
      | nil => intro us h; exact h
      | cons p cs ih =>
       intro us h
       obtain ⟨v, vs', h1, h2, h3⟩ := h
       exact ⟨v, vs', h1, ⟨[], h2⟩, ih h3⟩
     exact go f2
    ·simp only [List.mem_map] at hv
     obtain ⟨p, _, rfl⟩ := hv
     simp [AV.refs]
   ·rename_i f xs ht
    have htl : t < env.length := by
     apply Decidable.byContradiction
     intro h
     rw [Y16 env t (Nat.le_of_not_lt h)] at ht
     cases ht
    have hval : ∀ vs cs' bs, Rel c (SS env noP a.tmps vs w cs' bs) -> ∃ us, evT a.tmps (.tmp t) = .func (.func f) #[] us.toArray /\ PtrVs (RoS c (SS env noP a.tmps vs w cs' bs)) w xs us := by
     intro vs cs' bs hrel
     have hav := hrel.av t
     have e1 : (SS env noP a.tmps vs w cs' bs).env t = .cloR f xs := by show ovl env noP t = _; rw [Y7 htl]; exact ht
     have e2 : (SS env noP a.tmps vs w cs' bs).tm t = evT a.tmps (.tmp t) := if_pos (hr.choose_spec.len ▸ htl)
     rw [e1, e2] at hav
     exact hav.2
    obtain ⟨vs, hlen, cs', bs, hrel, hno⟩ := id hr
    obtain ⟨us, e1, e2⟩ := hval vs cs' bs hrel
    refine Y4o hO (ex := us) hop hdst hr hd (fun he => ?_) (fun vs2 cs2 bs2 hrel2 => ?_) (fun v hv => ?_) hK hn
    ·simp [execOp, hop, resolve, hc, Y6, e1, Deferred.ofValue, invoke, Y2j he]
    ·obtain ⟨us', f1, f2⟩ := hval vs2 cs2 bs2 hrel2
     rw [e1] at f1
     have : us = us' := by simpa using f1
     subst this
     exact Y4m f2
    ·simp only [List.mem_map] at hv
     obtain ⟨p, _, rfl⟩ := hv
     rw [Y6r]
     simp
   ·rename_i f caps0 ht
    have htl : t < env.length := by
     apply Decidable.byContradiction
     intro h
     rw [Y16 env t (Nat.le_of_not_lt h)] at ht
     cases ht
    have hval : ∀ vs cs' bs, Rel c (SS env noP a.tmps vs w cs' bs) -> ∃ v0 us, evT a.tmps (.tmp t) = .func (.func f) #[] us.toArray /\ SelfAt c (SS env noP a.tmps vs w cs' bs) f caps0 v0 us := by
     intro vs cs' bs hrel
     have hav := hrel.av t
     have e1 : (SS env noP a.tmps vs w cs' bs).env t = .cloS f caps0 := by show ovl env noP t = _; rw [Y7 htl]; exact ht
     have e2 : (SS env noP a.tmps vs w cs' bs).tm t = evT a.tmps (.tmp t) := if_pos (hr.choose_spec.len ▸ htl)
     rw [e1, e2] at hav
     exact hav.2
    obtain ⟨vs, hlen, cs', bs, hrel, hno⟩ := id hr
    obtain ⟨v0, us, e1, e2⟩ := hval vs cs' bs hrel
    refine Y4o hO (ex := us) hop hdst hr hd (fun he => ?_) (fun vs2 cs2 bs2 hrel2 => ?_) (fun v hv => ?_) hK hn
    ·simp [execOp, hop, resolve, hc, Y6, e1, Deferred.ofValue, invoke, Y2j he]
    ·obtain ⟨v0', us', f1, f2⟩ := hval vs2 cs2 bs2 hrel2
     rw [e1] at f1
     have : us = us' := by simpa using f1
     subst this
     exact Yaw f2
    ·simp only [List.mem_map] at hv
     obtain ⟨p, _, rfl⟩ := hv
     rw [Yax]
     simp
   ·simp at hK
  ·rename_i hc
   split at hK
   ·rename_i x t hargs htys
    split at hK
    ·rename_i s hs
     split at hK
     ·rename_i ht
      exact Yar hT hop hc hargs htys hdst hr hd hs ht hK hn
     ·simp at hK
    ·split at hK
     ·rename_i e τ ht
      split at hK
      ·rename_i lx hx
       split at hK
       ·rename_i xs hxs
        split at hK
        ·rename_i hl
         exact Y8l hT hop hc hargs htys hdst hr hd ht hx hxs hl hK hn
        ·simp at hK
       ·simp at hK
      ·simp at hK
     ·simp at hK
   ·simp at hK
  ·rename_i hc
   split at hK
   ·rename_i s x t t' hargs htys
    split at hK
    ·rename_i htt
     subst htt
     split at hK
     ·rename_i r1 j1 i1 o1 hnest
      split at hK
      ·rename_i te hte
       exact Yb1 hT hop hc hargs htys hdst hr hd hte hnest hK hn
      ·simp at hK
     ·exact Ybv hT hop hc hargs htys hdst hr hd hK hn
    ·simp at hK
   ·simp at hK
  ·rename_i hc
   split at hK
   ·rename_i x y hargs
    split at hK
    ·rename_i k n k' m hx hy
     split at hK
     ·rename_i hkk
      subst hkk
      exact Y7r (t := 0) (mx := true) hop hc hargs hdst hr hd hx hy hK hn
     ·simp at hK
    ·simp at hK
   ·simp at hK
  ·rename_i hc
   split at hK
   ·rename_i x y hargs
    split at hK
    ·rename_i k n k' m hx hy
     split at hK
     ·rename_i hkk
      subst hkk
      exact Y7r (t := 0) (mx := false) hop hc hargs hdst hr hd hx hy hK hn
     ·simp at hK
    ·simp at hK
   ·simp at hK
  ·simp at hK
 | _ => simp [evVal, hop] at hK
end
end Go.FP

namespace Go.FP
open Go.RowKit
section
variable {P : Program} {R : Type} {r : R} {c : Cx} {T : Tab} {sig : FuncId -> Option Sig} {caps : FuncId -> List Ty} {orc : Orc}
theorem Y30 : ∀ {env : Env} {d : Nat} {v : AV}, get env d = v -> put env d v = env
 | [], d, v, h => by cases d <;> rfl
 | u :: env, 0, v, h => by
  have h : u = v := h
  rw [<- h]; rfl
 | u :: env, d + 1, v, h => by
  have := Y30 (env := env) (d := d) (v := v) h
  show u :: put env d v = _
  rw [this]
theorem RE.len {env : Env} {tmps : Array Value} {w : World} (h : RE c env tmps w) : env.length = tmps.size := h.choose_spec.len
theorem RE.skip {env : Env} {a : Act} {w : World} {o : Oper} {d : Nat} (hr : RE c env a.tmps w) (hdst : o.dst = some d) (hd : d < env.length) : RE c (setD (some d) env .skip) (a.put o.dst undef).tmps w := by
 obtain ⟨vs, h⟩ := hr
 have h1 := h.addVal (n := env.length) (Nat.le_refl _) rfl (av := .skip) (v := undef) (fun cs bs _ => ⟨[], rfl⟩) ⟨by simp [AV.refs], by simp [AV.ptrs]⟩
 have := RE.commit h1 hd
 rw [Y0] at this
 rw [hdst]
 exact this
theorem Ycv (tmps : Array Value) (d : Nat) (v : Value) (h : tmps.getD d undef = v) (hd : d < tmps.size) : tmps.setIfInBounds d v = tmps := by
 apply Array.ext_getElem?
 intro i
 rw [Array.getElem?_setIfInBounds]
 split
 ·rename_i hi
  subst hi
  rw [<- h]
  simp [hd]
 ·rfl
theorem Yb7 (hT : TabOk P T) (hO : OrcOk P sig orc) {o : Oper} {a : Act} {w : World} {env : Env} {K : Env -> Option R} {next : Act -> World -> Prop} {Q : Exit -> Act -> World -> Prop} (hr : RE c env a.tmps w) (hK : evOp T sig caps orc o env K = some r) (hn : Next c a K r env.length next) : o.wp P a w next Q := by
 unfold evOp at hK
 split at hK
 ·rename_i d hdst
  split at hK
  ·rename_i hd
   exact Ya7 hT hO hdst hr hd hK hn
  ·simp at hK
 ·rename_i hdst
  split at hK
  ·rename_i t x v hop
   unfold store1 at hK
   split at hK
   ·rename_i hfn
    exact Yay hT hop hdst hr hfn hK hn
   split at hK
   ·rename_i s1 r1 j1 i1 o1 l1 hg
    split at hK
    ·rename_i ht
     exact Y91 hT hop hdst hr hg ht hK hn
    ·simp at hK
   unfold storePlain at hK
   split at hK
   ·simp at hK
   ·rename_i τ ht
    split at hK
    ·simp at hK
    ·rename_i env1 ls hta
     split at hK
     ·rename_i q off hx
      split at hK
      ·rename_i e0 old hold
       split at hK
       ·simp only at hK
        split at hK
        ·rename_i e old2 h2
         split at hK
         ·rename_i hc
          exact Y88 hT hop hdst hr ht hta hx h2 hc.1.1 hc.1.2 hc.2 hK hn
         ·simp at hK
        ·simp at hK
       ·simp at hK
      ·simp at hK
     ·rename_i le q j i oo hx
      split at hK
      ·rename_i e te xs lv hl
       split at hK
       ·rename_i hc
        obtain ⟨hlv, hlm⟩ := hc
        obtain ⟨h0, hK⟩ := Y1g hK
        simp only [Bool.and_eq_true, decide_eq_true_eq] at h0
        split at hK
        ·rename_i y hu
         exact Y89 hT hlv hop hdst hr ht hta hx hl hlm h0.1 h0.2 hu hK hn
        ·simp at hK
       ·simp at hK
      ·simp at hK
     ·simp at hK
  ·simp at hK
theorem Y1k (hT : TabOk P T) (hO : OrcOk P sig orc) {ops : Array Oper} {l2 : List Nat} {Q : Exit -> Act -> World -> Prop} {N : Nat} {D : List Deferred} {K : Env -> Option R} (hQ : ∀ env' a' w', K env' = some r -> RE c env' a'.tmps w' -> env'.length = N -> a'.defers = D -> wpOps P ops Q l2 a' w') :
  ∀ (l : List Nat) {env : Env} {a : Act} {w : World}, RE c env a.tmps w -> env.length = N -> a.defers = D -> evOps T sig caps orc ops (l.filterMap (ops[·]?)) env K = some r -> wpOps P ops Q (l ++ l2) a w
 | [], env, a, w, hr, hN, hD, hK => hQ env a w hK hr hN hD
 | i :: l, env, a, w, hr, hN, hD, hK => by
  rw [List.cons_append]
  unfold wpOps
  cases hi : ops[i]? with
  | none =>
   simp only
   rw [List.filterMap_cons_none (by exact hi)] at hK
   exact Y1k hT hO hQ l hr hN hD hK
  | some o =>
   simp only
   rw [List.filterMap_cons_some (by exact hi)] at hK
   have run : ∀ {env1 : Env}, RE c env1 a.tmps w -> env1.length = N -> evOp T sig caps orc o env1 (fun env' => evOps T sig caps orc ops (l.filterMap (ops[·]?)) env' K) = some r -> o.wp P a w (wpOps P ops Q (l ++ l2)) Q := by
    intro env1 hr1 hN1 hK1
    refine Yb7 hT hO hr1 hK1 (fun env' a' w' hK' hr' hl' hd' => ?_)
    exact Y1k hT hO hQ l hr' (by omega) (hd'.trans hD) hK'
   have skip : ∀ {env1 : Env}, RE c env1 a.tmps w -> env1.length = N -> skipOp o env1 (fun env' => evOps T sig caps orc ops (l.filterMap (ops[·]?)) env' K) = some r -> wpOps P ops Q (l ++ l2) (a.put o.dst undef) w := by
    intro env1 hr1 hN1 hK1
    unfold skipOp at hK1
    split at hK1
    ·rename_i d hdst
     split at hK1
     ·rename_i hd
      refine Y1k hT hO hQ l (hr1.skip hdst hd) (by rw [Y1r]; exact hN1) ?_ hK1
      rw [hdst]
      exact hD
     ·simp at hK1
    ·rename_i hdst
     rw [hdst]
     exact Y1k hT hO hQ l hr1 hN1 hD hK1
   unfold evOps at hK
   cases hg : o.guard with
   | none =>
    rw [hg] at hK
    simp only at hK
    have hw : Region.wanted o (yielded ops a.tmps) = true := by simp [Region.wanted, hg]
    rw [if_pos hw]
    exact .inl (run hr hN hK)
   | some g =>
    obtain ⟨j, want⟩ := g
    rw [hg] at hK
    simp only at hK
    cases hj : (ops[j]?).bind (·.dst) with
    | none => rw [hj] at hK; simp at hK
    | some d =>
     rw [hj] at hK
     simp only at hK
     have hlen := hr.len
     have hdl : ∀ v, get env d = v -> v ≠ .undef -> d < env.length := fun v hv hne => by
      apply Decidable.byContradiction
      intro h
      rw [Y16 env d (Nat.le_of_not_lt h)] at hv
      exact hne hv.symm
     have hyield : d < env.length -> yielded ops a.tmps j = match a.tmps.getD d undef with | .bool b => some b | _ => none := fun hd => by
      unfold yielded
      rw [hj]
      simp only [Option.bind_some]
      have hd2 : d < a.tmps.size := hlen ▸ hd
      rw [Array.getD_eq_getD_getElem?, Array.getElem?_eq_getElem hd2, Option.getD_some]
      generalize a.tmps[d] = v
      cases v <;> rfl
     split at hK
     ·rename_i hskip
      have hd := hdl _ hskip (by simp)
      have hv : a.tmps.getD d undef = undef := by
       obtain ⟨vs, hl, cs, bs, hrel, _⟩ := id hr
       have hav := hrel.av d
       have e1 : ovl env noP d = .skip := by rw [Y7 hd]; exact hskip
       have e2 : ovlT a.tmps vs d = a.tmps.getD d undef := if_pos (hlen ▸ hd)
       simp only [e1, e2] at hav
       exact hav.1
      have hw : Region.wanted o (yielded ops a.tmps) = false := by
       simp only [Region.wanted, hg, hyield hd, hv]
       rfl
      rw [if_neg (by rw [hw]; simp)]
      exact skip hr hN hK
     ·rename_i b hget
      ·have hb : bool1 (rd none env (.tmp d)) = some b := by
        simp only [rd, hget, borrowFrom, Mode.own]
        rfl
       have hvb := hr.bool1 hb
       have hd : d < env.length := Yx hget
       have hv : a.tmps.getD d undef = .bool b := hvb
       have hps : put env d (vBool b) = env := Y30 hget
       have hw : Region.wanted o (yielded ops a.tmps) = (b == want) := by
        simp only [Region.wanted, hg, hyield hd, hv]
        cases b <;> cases want <;> rfl
       rw [hw]
       cases b with
       | true =>
        simp only [cond_true] at hK
        rw [hps] at hK
        cases want with
        | true => rw [if_pos (by decide)] at hK; rw [if_pos (by decide)]; exact .inl (run hr hN hK)
        | false => rw [if_neg (by decide)] at hK; rw [if_neg (by decide)]; exact skip hr hN hK
       | false =>
        simp only [cond_false] at hK
        rw [hps] at hK
        cases want with
        | true => rw [if_pos (by decide)] at hK; rw [if_neg (by decide)]; exact skip hr hN hK
        | false => rw [if_neg (by decide)] at hK; rw [if_pos (by decide)]; exact .inl (run hr hN hK)
     ·simp at hK
theorem Ya8 (hT : TabOk P T) (hO : OrcOk P sig orc) {ops : Array Oper} {Q : Exit -> Act -> World -> Prop} {N : Nat} {D : List Deferred} {K : Env -> Option R} (hQ : ∀ env' a' w', K env' = some r -> RE c env' a'.tmps w' -> env'.length = N -> a'.defers = D -> Q .normal a' w')
  (l : List Nat) {env : Env} {a : Act} {w : World} (hr : RE c env a.tmps w) (hN : env.length = N) (hD : a.defers = D) (hK : evOps T sig caps orc ops (l.filterMap (ops[·]?)) env K = some r) : wpOps P ops Q l a w := by
 have := Y1k (l2 := []) hT hO (Q := Q) hQ l hr hN hD hK
 rwa [List.append_nil] at this
end
end Go.FP

namespace Go.FP
open Go.RowKit
section
variable {P : Program} {R : Type} {r : R} {c : Cx} {T : Tab} {sig : FuncId -> Option Sig} {caps : FuncId -> List Ty} {orc : Orc}
theorem RE.forgetD {env : Env} {tmps : Array Value} {w : World} {d : Nat} (hr : RE c env tmps w) (hd : d < env.length) : RE c (put (clear d env) d .undef) tmps w := by
 have hl := hr.len
 obtain ⟨vs, h⟩ := hr
 have h1 := h.addVal (n := env.length) (Nat.le_refl _) rfl (av := .undef) (v := tmps.getD d undef) (fun cs bs _ => ⟨[], trivial⟩) ⟨by simp [AV.refs], by simp [AV.ptrs]⟩
 have := RE.commit h1 hd
 rw [Y0, Ycv tmps d _ rfl (by omega)] at this
 unfold setD at this
 unfold clear
 simp only at this
 split at this
 ·rename_i hq; rw [if_pos hq]; exact this
 ·rename_i hq; rw [if_neg hq]; exact this
theorem Y28 {keep : List Nat} {tmps : Array Value} {w : World} : ∀ (ds : List Nat) {env : Env}, RE c env tmps w -> (∀ d ∈ ds, d < env.length) -> RE c (dropAll keep ds env) tmps w /\ (dropAll keep ds env).length = env.length
 | [], env, hr, _ => ⟨hr, rfl⟩
 | d :: ds, env, hr, hd => by
  unfold dropAll
  split
  ·exact Y28 ds hr (fun d' hd' => hd d' (List.mem_cons_of_mem _ hd'))
  ·have h1 := hr.forgetD (hd d List.mem_cons_self)
   have hlen : (put (clear d env) d .undef).length = env.length := by
    rw [Y5]; unfold clear; split
    ·rfl
    ·exact Y1c _ _
   obtain ⟨k1, k2⟩ := Y28 (keep := keep) ds h1 (fun d' hd' => by rw [hlen]; exact hd d' (List.mem_cons_of_mem _ hd'))
   exact ⟨k1, k2.trans hlen⟩
theorem RE.drew {env : Env} {tmps : Array Value} {w : World} (hr : RE c env tmps w) : RE c env tmps { w with drawn := w.drawn + 1 } := by
 obtain ⟨vs, hl, cs, bs, h, hno⟩ := hr
 exact ⟨vs, hl, cs, bs, h.world (w' := { w with drawn := w.drawn + 1 }) ⟨rfl, rfl, rfl, Nat.le_refl _, fun _ _ => rfl⟩, hno⟩
def DrawHyp {R : Type} (T : Tab) (sig : FuncId -> Option Sig) (caps : FuncId -> List Ty) (orc : Orc) (dr : Array Oper -> Env -> (Env -> Option R) -> Option R) : Prop :=
 ∀ (ops : Array Oper) (env : Env) (K : Env -> Option R) (r : R), dr ops env K = some r -> ∀ t, ∃ π, evOps T sig caps orc ops (π.filterMap (ops[·]?)) env K = some r /\
  ∀ (P : Program) (Q : Exit -> Act -> World -> Prop) (a : Act) (w : World), (∀ c a w, ¬ Q (.panic c) a w) -> ¬ LetsOut Q -> wpOps P ops Q π a w -> wpOps P ops Q (Region.linearise .any ops t) a w
theorem Oper.wp_monoQ {P : Program} {o : Oper} {a : Act} {w : World} {K : Act -> World -> Prop} {Q Q' : Exit -> Act -> World -> Prop} (h : ∀ e a w, Q e a w -> Q' e a w) (hh : o.wp P a w K Q) : o.wp P a w K Q' := by
 unfold Oper.wp at *
 generalize (execOp a.eval o).run P w = r at *
 cases r with
 | ok n w' =>
  cases n <;> simp only [Oper.upon] at hh ⊢ <;>
   first
    | exact hh
    | exact Calls.mono hh (fun e w'' he => by cases e <;> first | exact he | exact h _ _ _ he | exact he.imp fun a => Exists.imp fun w => h _ _ _)
 | halt x w' => cases x <;> simp only [Oper.upon] at hh ⊢ <;> first | exact hh | exact h _ _ _ hh
theorem Y35 {P : Program} {ops : Array Oper} {Q Q' : Exit -> Act -> World -> Prop} (h : ∀ e a w, Q e a w -> Q' e a w) : ∀ {l : List Nat} {a : Act} {w : World}, wpOps P ops Q l a w -> wpOps P ops Q' l a w
 | [], a, w, hh => h _ _ _ hh
 | i :: l, a, w, hh => by
  rw [wpOps_cons] at hh ⊢
  unfold wpOp at *
  split
  ·rename_i ho
   simp only [ho] at hh
   exact Y35 h hh
  ·rename_i o ho
   simp only [ho] at hh
   split
   ·rename_i hw
    simp only [hw, if_true] at hh
    rcases hh with hh | ⟨h1, a2, w2, h2⟩
    ·exact .inl (Oper.wp_mono (fun a w h' => Y35 h h') (Oper.wp_monoQ h hh))
    ·exact .inr ⟨h1, a2, w2, h _ _ _ h2⟩
   ·rename_i hw
    simp only [hw] at hh
    exact Y35 h hh
theorem Ybz (ops : Array Oper) : (List.range ops.size).filterMap (ops[·]?) = ops.toList := by
 apply List.ext_getElem?
 intro i
 rw [<- Array.length_toList]
 have : ∀ (l : List Oper), (List.range l.length).filterMap (fun i => l[i]?) = l := by
  intro l
  induction l with
  | nil => rfl
  | cons x l ih =>
   rw [List.length_cons, List.range_succ_eq_map, List.filterMap_cons_some (by rfl), List.filterMap_map]
   congr 1
 have h2 := this ops.toList
 simp only [Array.getElem?_toList] at h2
 rw [h2]
theorem Y5b {ops : List Oper} {tmps : Array Value} {w : World} {s : Nat} {env : Env} (hr : RE c env tmps w) : RE c (preRow T ops s env) tmps w /\ (preRow T ops s env).length = env.length := by
 unfold preRow
 split
 ·split
  ·rename_i ls hrd
   refine ⟨?_, (Yq _ _).2⟩
   have h1 : ∀ q ∈ (AV.con .val ls).refs, q.1 < env.length := by rw [<- hrd]; exact (hr.refs _ _).1
   obtain ⟨vs, h⟩ := hr
   exact ⟨vs, h.freezeAll _ (fun l hl q hq => h1 q (List.mem_flatMap.2 ⟨l, hl, hq⟩)) (fun r => .inl rfl)⟩
  ·exact ⟨hr, rfl⟩
 ·split
  ·rename_i r' j hlf
   have hlt : r' < env.length := by
    unfold loadedFrom at hlf
    split at hlf
    ·split at hlf
     ·split at hlf
      ·rename_i q o hx
       simp only [Option.some.injEq, Prod.mk.injEq] at hlf
       obtain ⟨rfl, _⟩ := hlf
       exact (hr.refs none _).2 _ (by rw [hx]; simp [AV.ptrs])
      ·simp at hlf
     ·split at hlf
      ·rename_i q o hx
       simp only [Option.some.injEq, Prod.mk.injEq] at hlf
       obtain ⟨rfl, _⟩ := hlf
       exact (hr.refs none _).2 _ (by rw [hx]; simp [AV.ptrs])
      ·simp at hlf
     ·simp at hlf
    ·simp at hlf
   refine ⟨?_, (Y3i r' j env).2⟩
   obtain ⟨vs, h⟩ := hr
   exact ⟨vs, h.freezeAll [⟨.unit, (), .bor r' j []⟩] (fun l hl p hp => by
    rw [List.mem_singleton.1 hl] at hp
    simp only [Leaf.refs, List.mem_singleton] at hp
    rw [hp]
    exact hlt) (fun r => .inl rfl)⟩
  ·exact ⟨hr, rfl⟩
theorem Y31 {ops : List Oper} {tmps : Array Value} {w : World} : ∀ (ps : List (Nat × Operand)) {env : Env}, RE c env tmps w -> RE c (preElems T ops ps env) tmps w /\ (preElems T ops ps env).length = env.length
 | [], env, hr => ⟨hr, rfl⟩
 | p :: ps, env, hr => by
  unfold preElems
  split
  ·rename_i b hb
   have h1 := Y5b (T := T) (ops := ops) (s := b) hr
   obtain ⟨h2, h3⟩ := Y31 ps h1.1
   exact ⟨h2, h3.trans h1.2⟩
  ·exact Y31 ps hr
theorem Y73 {ops : List Oper} {tmps : Array Value} {w : World} : ∀ (l : List Oper) {env : Env}, RE c env tmps w -> RE c (preF T ops l env) tmps w /\ (preF T ops l env).length = env.length
 | [], env, hr => ⟨hr, rfl⟩
 | o :: l, env, hr => by
  have key : ∀ env', RE c env' tmps w /\ env'.length = env.length -> RE c (preF T ops l env') tmps w /\ (preF T ops l env').length = env.length := fun env' h => by
   obtain ⟨k1, k2⟩ := Y73 l h.1
   exact ⟨k1, k2.trans h.2⟩
  unfold preF
  refine key _ ?_
  split
  ·exact Y5b hr
  ·exact Y31 _ hr
  ·exact ⟨hr, rfl⟩
theorem Y2k (hT : TabOk P T) (hO : OrcOk P sig orc) {ops : Array Oper} {Q : Exit -> Act -> World -> Prop} {N : Nat} {D : List Deferred} {K : Env -> Option R} (hQ : ∀ env' a' w', K env' = some r -> RE c env' a'.tmps w' -> env'.length = N -> a'.defers = D -> Q .normal a' w') :
  ∀ (l : List Nat) {env : Env} {a : Act} {w : World}, RE c env a.tmps w -> env.length = N -> a.defers = D -> evOpsS T sig caps orc ops (l.filterMap (ops[·]?)) env K = some r -> wpOps P ops Q l a w
 | [], env, a, w, hr, hN, hD, hK => hQ env a w hK hr hN hD
 | i :: l, env, a, w, hr, hN, hD, hK => by
  cases hi : ops[i]? with
  | none =>
   rw [List.filterMap_cons_none (by exact hi)] at hK
   unfold wpOps
   simp only [hi]
   exact Y2k hT hO hQ l hr hN hD hK
  | some o =>
   rw [List.filterMap_cons_some (by exact hi)] at hK
   unfold evOpsS at hK
   split at hK
   ·rename_i b env' hs
    obtain ⟨hb, hK⟩ := Y1g hK
    subst hb
    unfold wpOps
    simp only [hi]
    have hg := Y8a hs
    have hw : Region.wanted o (yielded ops a.tmps) = true := by simp [Region.wanted, hg]
    rw [if_pos hw]
    refine .inl (Y8b hT hr hs (fun a' w' h1 h2 h3 => ?_))
    exact Y2k hT hO hQ l h1 (h2.trans hN) (h3.trans hD) hK
   ·exact Y1k (l2 := l) hT hO (Q := Q) (N := N) (D := D) (fun env' a' w' h1 h2 h3 h4 => Y2k hT hO hQ l h2 h3 h4 h1) [i] hr hN hD (by
     show evOps T sig caps orc ops ([i].filterMap (ops[·]?)) env _ = _
     rw [List.filterMap_cons_some (by exact hi)]
     exact hK)
theorem Y3u (hT : TabOk P T) (hO : OrcOk P sig orc) (hm : P.follows .mixedOrders = true) {dr : Array Oper -> Env -> (Env -> Option R) -> Option R} (hdraw : DrawHyp (R := R) T sig caps orc dr) {fuel : Nat} {ann : Nat -> Option (List Nat)} {N : Nat} {D : List Deferred} :
  ∀ (code : Code) {m : Nat} {env : Env} {K : Exit -> Env -> Option R} {Q : Exit -> Act -> World -> Prop} {a : Act} {w : World}, RE c env a.tmps w -> env.length = N -> a.defers = D ->
   (∀ e env' a' w', K e env' = some r -> RE c env' a'.tmps w' -> env'.length = N -> a'.defers = D -> Q e a' w') -> evCode T sig caps orc dr fuel ann m code env K = some r -> code.wp P Q a w := by
 intro code
 induction code with
 | skip =>
  intro m env K Q a w hr hN hD hQ hK
  simp only [evCode] at hK
  exact wp_skip (hQ _ _ _ _ hK hr hN hD)
 | region id ops draw =>
  intro m env K Q a w hr hN hD hQ hK
  simp only [evCode] at hK
  cases draw with
  | false =>
   simp only [Bool.false_eq_true, if_false] at hK
   refine wp_region (Y2k (caps := caps) hT hO (K := K .normal) (N := N) (D := D) (fun env' a' w' h1 h2 h3 h4 => hQ _ _ _ _ h1 h2 h3 h4) _ hr hN hD ?_)
   rw [Ybz]
   exact hK
  | true =>
   simp only [if_true] at hK
   refine wp_region_draw (fun t => ?_)
   simp only [Region.schedule, hm, Bool.true_or, if_true]
   obtain ⟨p1, p2⟩ := Y73 (ops := ops.toList) ops.toList hr
   obtain ⟨π, q1, q2⟩ := hdraw ops _ _ r hK t
   refine Y35 (Q := fun e a w => e = .normal /\ Q .normal a w) (fun e a w h => by obtain ⟨rfl, h⟩ := h; exact h) (q2 _ _ _ _ (fun c a w h => by cases h.1) (fun ⟨a, w, h⟩ => by cases h.1) ?_)
   exact Ya8 hT hO (K := K .normal) (N := N) (D := D) (fun env' a' w' h1 h2 h3 h4 => ⟨rfl, hQ _ _ _ _ h1 h2 h3 h4⟩) _ p1.drew (p2.trans hN) hD q1
 | seq x y ihx ihy =>
  intro m env K Q a w hr hN hD hQ hK
  simp only [evCode] at hK
  refine wp_seq (ihx hr hN hD (fun e env' a' w' h1 h2 h3 h4 => ?_) hK)
  cases e with
  | normal => exact ihy h2 h3 h4 hQ h1
  | _ => exact hQ _ _ _ _ h1 h2 h3 h4
 | cond cc x y ihx ihy =>
  intro m env K Q a w hr hN hD hQ hK
  simp only [evCode] at hK
  split at hK
  ·rename_i t hb
   have hc := hr.bool1 hb
   refine wp_cond (t := t) (by rw [Y6]; exact hc) ?_
   cases t with
   | true => exact ihx hr hN hD hQ hK
   | false => exact ihy hr hN hD hQ hK
  ·simp at hK
 | block id x ih =>
  intro m env K Q a w hr hN hD hQ hK
  simp only [evCode] at hK
  refine wp_block (ih hr hN hD (fun e env' a' w' h1 h2 h3 h4 => ?_) hK)
  cases e with
  | exit id' =>
   simp only at h1
   show if id' = id then Q .normal a' w' else Q (.exit id') a' w'
   split at h1
   ·rename_i hid; rw [if_pos hid]; exact hQ _ _ _ _ h1 h2 h3 h4
   ·rename_i hid; rw [if_neg hid]; exact hQ _ _ _ _ h1 h2 h3 h4
  | _ => exact hQ _ _ _ _ h1 h2 h3 h4
 | loop x ih =>
  intro m env K Q a w hr hN hD hQ hK
  simp only [evCode] at hK
  split at hK
  ·simp at hK
  ·rename_i keep hkeep
   refine wp_loop_rounds fuel ?_
   have key : ∀ (n : Nat) {env : Env} {a : Act} {w : World}, RE c env a.tmps w -> env.length = N -> a.defers = D ->
     iter (fun rec env => evCode T sig caps orc dr fuel ann m x env fun e env' => match e with | .normal => rec (dropAll keep (List.range env'.length) env') | e => K e env') n env = some r -> Code.rounds P x Q n a w := by
    intro n
    induction n with
    | zero => intro env a w _ _ _ hK; simp [iter] at hK
    | succ n ihn =>
     intro env a w hr hN hD hK
     simp only [iter] at hK
     rw [rounds_succ]
     refine ih hr hN hD (fun e env' a' w' h1 h2 h3 h4 => ?_) hK
     cases e with
     | normal =>
      obtain ⟨k1, k2⟩ := Y28 (keep := keep) (List.range env'.length) h2 (fun d hd => List.mem_range.1 hd)
      exact ihn k1 (by rw [k2]; exact h3) h4 h1
     | _ => exact hQ _ _ _ _ h1 h2 h3 h4
   obtain ⟨k1, k2⟩ := Y28 (keep := keep) (List.range env.length) hr (fun d hd => List.mem_range.1 hd)
   exact key fuel k1 (by rw [k2]; exact hN) hD hK
 | exit id =>
  intro m env K Q a w hr hN hD hQ hK
  simp only [evCode] at hK
  exact wp_exit (hQ _ _ _ _ hK hr hN hD)
 | ret =>
  intro m env K Q a w hr hN hD hQ hK
  simp only [evCode] at hK
  exact wp_ret (hQ _ _ _ _ hK hr hN hD)
 | _ => intro m env K Q a w hr hN hD hQ hK; simp [evCode] at hK
end
end Go.FP

namespace Go.FP
open Go.RowKit
def ArgOk (S : Nat -> Prop) (w : World) (c : Cx) (av : AV) (v : Value) (cells : List Value) : Prop :=
 ∀ (s : St) (r : Nat), s.w = w -> (∀ b, S b -> RoS c s b) -> (∀ l, s.bs r l = []) -> s.cs r = cells -> AVRel c s r av v /\ av.refs = [] /\ av.ptrs = []
theorem Y98 {S : Nat -> Prop} {w : World} {c : Cx} {rv : RV} {v : Value} {av : AV} (h : RVRel S w rv v) (hp : paramAV rv = some av) : ∃ cells, ArgOk S w c av v cells := by
 cases rv with
 | val t x =>
  obtain ⟨ch, rfl, hrep⟩ := h
  simp only [paramAV, Option.some.injEq] at hp
  subst hp
  obtain ⟨h1, h2⟩ := Y1x t (fun _ => .at_ .ro) 0 hrep
  refine ⟨ch, fun s r hw hS hb hc => ⟨?_, Y2r t x 0, rfl⟩⟩
  refine ⟨?_, by rw [hc]; exact h1, fun l _ => hb _, fun l lf u hl hu => ?_⟩
  ·rw [hc]
   exact (Y1o (w := s.w) (fun ha => by rw [hrep.len]; exact Y2i ha)).bare (hb 0)
  ·rw [hc] at hu
   have hm := Y34 t x 0 lf (Yc hl)
   have := (h2 l lf u (by rw [<- Y1]; exact hl) hu).1
   refine LeafRel.of_held (by rw [hm]; rfl) (hb _) ?_
   obtain ⟨t', x', m⟩ := lf
   simp only at hm
   subst hm
   show Rep (RoS c s) s.w _ _ _ _ _
   rw [hw]
   exact Rep.move (fun b hb _ => ⟨hS b hb, rfl⟩) (by simp) this
 | ptr t x =>
  obtain ⟨a, ch, rfl, hSa, hlt, hcell, hrep⟩ := h
  simp only [paramAV, Option.some.injEq] at hp
  subst hp
  obtain ⟨h1, h2⟩ := Y1x t (fun _ => .at_ .ro) 0 hrep
  refine ⟨[], fun s r hw hS hb hc => ⟨?_, by simp only [AV.refs, List.append_nil]; exact Y2r t x 0, rfl⟩⟩
  refine ⟨hb, a, rfl, fun l lf hl => ?_, hS _ hSa, by rw [hw]; exact hlt⟩
  have hm := Y34 t x 0 lf (Yc hl)
  refine ⟨by rw [hm]; rfl, ?_⟩
  have hl' := hl
  rw [Y1] at hl'
  have hll : l < ch.length := by rw [<- h1]; exact (List.getElem?_eq_some_iff.1 hl').1
  refine ⟨ch[l], by rw [hw]; exact hcell l _ (List.getElem?_eq_getElem hll), ?_⟩
  have := (h2 l lf ch[l] hl' (List.getElem?_eq_getElem hll)).1
  obtain ⟨t', x', m⟩ := lf
  simp only at hm
  subst hm
  show Rep (RoS c s) s.w _ _ _ _ _
  rw [hw]
  exact Rep.move (fun b hb _ => ⟨hS b hb, rfl⟩) (by simp) this
 | clo f caps =>
  obtain ⟨us, rfl, hps⟩ := h
  simp only [paramAV, Option.some.injEq] at hp
  subst hp
  exact ⟨[], fun s r hw hS hb hc => ⟨⟨hb, us, rfl, hps.move (fun b hb _ => ⟨hS b hb, by rw [hw]⟩)⟩, rfl, rfl⟩⟩
 | fptr f caps => exact h.elim
theorem Y5c {S : Nat -> Prop} {w : World} {c : Cx} : ∀ {args : List RV} {vals : List Value} {as : List AV}, RVRels S w args vals -> paramAVs args = some as -> vals.length = as.length /\ ∃ cs : Nat -> List Value, ∀ r, r < as.length -> ArgOk S w c (get as r) (vals.getD r undef) (cs r)
 | [], vals, as, h, hp => by
  simp only [paramAVs, Option.some.injEq] at hp
  subst hp
  exact ⟨by rw [show vals = [] from h]; rfl, fun _ => [], fun r hr => by simp at hr⟩
 | rv :: args, vals, as, ⟨v, vals', e, h1, h2⟩, hp => by
  simp only [paramAVs] at hp
  cases ha : paramAV rv with
  | none => rw [ha] at hp; simp at hp
  | some av =>
   cases has : paramAVs args with
   | none => rw [ha, has] at hp; simp at hp
   | some as' =>
    rw [ha, has] at hp
    simp only [Option.some.injEq] at hp
    subst hp; subst e
    obtain ⟨k1, cs, k2⟩ := Y5c (c := c) h2 has
    obtain ⟨cells, k3⟩ := Y98 (c := c) h1 ha
    refine ⟨by simp [k1], fun r => match r with | 0 => cells | r + 1 => cs r, fun r hr => ?_⟩
    cases r with
    | zero => exact k3
    | succ r => exact k2 r (by simpa using hr)
theorem Y29 : ∀ (as bs : Env) (r : Nat), r < as.length -> get (as ++ bs) r = get as r
 | [], bs, r, h => by simp at h
 | a :: as, bs, 0, _ => rfl
 | a :: as, bs, r + 1, h => Y29 as bs r (by simpa using h)
theorem Y2a : ∀ (as bs : Env) (r : Nat), as.length <= r -> get (as ++ bs) r = get bs (r - as.length)
 | [], bs, r, h => by simp
 | a :: as, bs, 0, h => by simp at h
 | a :: as, bs, r + 1, h => by
  simp only [List.cons_append, get, List.length_cons, Nat.add_sub_add_right]
  exact Y2a as bs r (by simpa using h)
theorem Y5u : ∀ (n r : Nat) (v : AV), r < n -> get (List.replicate n v) r = v
 | 0, r, v, h => by omega
 | n + 1, 0, v, _ => rfl
 | n + 1, r + 1, v, h => Y5u n r v (by omega)
def cx0 (S : Nat -> Prop) (w : World) : Cx := ⟨S, w.heap.size, w, fun _ => default, fun _ => False, default, fun _ => default⟩
theorem Ydn {S : Nat -> Prop} {w : World} {args : List RV} {vals : List Value} {as : List AV} (h : RVRels S w args vals) (hp : paramAVs args = some as) {n : Nat} (hn : as.length <= n) :
  RE (cx0 S w) (as ++ List.replicate (n - as.length) .skip) (vals.toArray ++ Array.replicate (n - vals.toArray.size) undef) w := by
 obtain ⟨k1, cs, k2⟩ := Y5c (c := (cx0 S w)) h hp
 have hsz : vals.toArray.size = as.length := by simpa using k1
 let env : Env := as ++ List.replicate (n - as.length) .skip
 let tmps : Array Value := vals.toArray ++ Array.replicate (n - vals.toArray.size) undef
 have hel : env.length = n := by simp [env]; omega
 have htl : tmps.size = n := by simp [tmps]; omega
 let bs : Nat -> Nat -> List Nat := fun _ _ => []
 let s : St := SS env noP tmps noV w cs bs
 have hRoS : ∀ b, S b -> RoS (cx0 S w) s b := fun b hb => ⟨fun _ _ => by simp [s, bs], .inl hb⟩
 have hget : ∀ r, r < as.length -> ovl env noP r = get as r /\ ovlT tmps noV r = vals.getD r undef := fun r hr => by
  refine ⟨by rw [Y7 (by omega)]; exact Y29 _ _ _ hr, ?_⟩
  show (if r < tmps.size then tmps.getD r undef else _) = _
  rw [if_pos (by omega)]
  have : r < vals.length := by omega
  simp [tmps, this, Array.getD_eq_getD_getElem?, Array.getElem?_append, List.getD_eq_getElem?_getD]
 have hav : ∀ r, AVRel (cx0 S w) s r (ovl env noP r) (ovlT tmps noV r) /\ (ovl env noP r).refs = [] /\ (ovl env noP r).ptrs = [] := fun r => by
  by_cases h1 : r < as.length
  ·rw [(hget r h1).1, (hget r h1).2]
   exact k2 r h1 s r rfl hRoS (fun _ => rfl) rfl
  ·by_cases h2 : r < n
   ·have e1 : ovl env noP r = .skip := by
     rw [Y7 (by omega)]
     show get (as ++ _) r = _
     rw [Y2a _ _ _ (by omega), Y5u _ _ _ (by omega)]
    have e2 : ovlT tmps noV r = undef := by
     show (if r < tmps.size then tmps.getD r undef else _) = _
     rw [if_pos (by omega)]
     simp only [tmps, Array.getD_eq_getD_getElem?]
     rw [Array.getElem?_append_right (by omega), Array.getElem?_replicate]
     split <;> rfl
    rw [e1, e2]
    exact ⟨⟨rfl, fun _ => rfl⟩, rfl, rfl⟩
   ·have e1 : ovl env noP r = .undef := by rw [Yf (by omega)]; rfl
    rw [e1]
    exact ⟨fun _ => rfl, rfl, rfl⟩
 refine ⟨noV, by rw [hel, htl], cs, bs, ⟨Below.refl _ _, Nat.le_refl _, fun r l b hb => by simp [bs] at hb, fun r l r' l' b hb => by simp [bs] at hb, fun r l => List.nodup_nil, fun r => (hav r).1, fun b hb => hb.elim⟩, fun r => ?_⟩
 rw [(hav r).2.1, (hav r).2.2]
 exact ⟨by simp, by simp⟩
def cxM (S : Nat -> Prop) (base : Nat) (w : World) (ch : List Value) (b0 : List Nat) : Cx := ⟨S, base, w, fun i => ch.getD i undef, fun b => b < w.heap.size /\ b ∉ b0, default, fun _ => default⟩
theorem Y5d {S : Nat -> Prop} {w : World} : ∀ (t : Ty) {cs : List Value} {x : t.D} {bs : List Nat} (n : Nat), Rep S w t .dp cs x bs ->
  (leaves t x (fun i => .at_ (.pn i)) n).length = cs.length /\ (∀ lf ∈ leaves t x (fun i => .at_ (.pn i)) n, lf.m.settled = true) /\ ∃ bds : List (List Nat), bds.length = cs.length /\ bs = bds.flatten /\
   ∀ (l : Nat) (lf : Leaf) (u : Value), (leaves t x (fun i => .at_ (.pn i)) n)[l]? = some lf -> cs[l]? = some u -> ∃ m, lf.m = .at_ m /\ (m = .ro \/ m = .pn (n + l)) /\ Rep S w lf.t m [u] lf.x (bds.getD l [])
 | .int k, cs, x, bs, n, h => by
  obtain ⟨rfl, rfl⟩ := h
  refine ⟨rfl, by simp [leaves, Mode.settled], [[]], rfl, rfl, fun l lf u hl hu => ?_⟩
  cases l with
  | zero => simp only [leaves, List.getElem?_cons_zero, Option.some.injEq] at hl hu; subst hl; subst hu; exact ⟨.ro, rfl, .inl rfl, rfl, rfl⟩
  | succ l => simp [leaves] at hl
 | .bool, cs, x, bs, n, h => by
  obtain ⟨rfl, rfl⟩ := h
  refine ⟨rfl, by simp [leaves, Mode.settled], [[]], rfl, rfl, fun l lf u hl hu => ?_⟩
  cases l with
  | zero => simp only [leaves, List.getElem?_cons_zero, Option.some.injEq] at hl hu; subst hl; subst hu; exact ⟨.ro, rfl, .inl rfl, rfl, rfl⟩
  | succ l => simp [leaves] at hl
 | .str, cs, x, bs, n, h => by
  obtain ⟨rfl, rfl⟩ := h
  refine ⟨rfl, by simp [leaves, Mode.settled], [[]], rfl, rfl, fun l lf u hl hu => ?_⟩
  cases l with
  | zero => simp only [leaves, List.getElem?_cons_zero, Option.some.injEq] at hl hu; subst hl; subst hu; exact ⟨.ro, rfl, .inl rfl, rfl, rfl⟩
  | succ l => simp [leaves] at hl
 | .slice e t, cs, x, bs, n, h => by
  have h0 := h
  obtain ⟨v, xs, b0, b1, rfl, _⟩ := h
  refine ⟨rfl, by simp [leaves, Mode.settled], [bs], rfl, by simp, fun l lf u hl hu => ?_⟩
  cases l with
  | zero => simp only [leaves, List.getElem?_cons_zero, Option.some.injEq] at hl hu; subst hl; subst hu; exact ⟨.pn n, rfl, .inr rfl, Rep.pn.2 h0⟩
  | succ l => simp [leaves] at hl
 | .unit, cs, x, bs, n, h => by
  obtain ⟨rfl, rfl⟩ := h
  exact ⟨rfl, by simp [leaves], [], rfl, rfl, fun l lf u hl hu => by simp [leaves] at hl⟩
 | .pair a b, cs, x, bs, n, h => by
  obtain ⟨c1, c2, b1, b2, rfl, rfl, h1, h2⟩ := h
  obtain ⟨l1, s1, d1, e1, f1, k1⟩ := Y5d a n h1
  obtain ⟨l2, s2, d2, e2, f2, k2⟩ := Y5d b (n + a.sz) h2
  have hsz : c1.length = a.sz := Rep.len h1
  refine ⟨by simp [leaves, l1, l2], fun lf hm => ?_, d1 ++ d2, by simp [e1, e2], by rw [f1, f2, List.flatten_append], fun l lf u hl hu => ?_⟩
  ·simp only [leaves] at hm
   exact (List.mem_append.1 hm).elim (s1 lf) (s2 lf)
  ·simp only [leaves] at hl
   by_cases hlt : l < c1.length
   ·rw [List.getElem?_append_left (by omega)] at hl
    rw [List.getElem?_append_left hlt] at hu
    obtain ⟨m, hm, hp, hh⟩ := k1 l lf u hl hu
    refine ⟨m, hm, hp, ?_⟩
    rw [List.getD_eq_getElem?_getD, List.getElem?_append_left (by omega), <- List.getD_eq_getElem?_getD]
    exact hh
   ·rw [List.getElem?_append_right (by omega)] at hl
    rw [List.getElem?_append_right (by omega)] at hu
    obtain ⟨m, hm, hp, hh⟩ := k2 (l - c1.length) lf u (by rw [<- l1]; exact hl) hu
    refine ⟨m, hm, ?_, ?_⟩
    ·rcases hp with hp | hp
     ·exact .inl hp
     ·refine .inr ?_
      rw [hp]; congr 1; omega
    ·rw [List.getD_eq_getElem?_getD, List.getElem?_append_right (by omega), <- List.getD_eq_getElem?_getD, e1]
     exact hh
theorem Ydl {S : Nat -> Prop} {w : World} {t : Ty} {x : t.D} {ch : List Value} {b0 : List Nat} {base : Nat} {args : List RV} {vals : List Value} {as : List AV} (hrep : Rep (fun _ => False) w t .dp ch x b0) (hnd : b0.Nodup) (hb0 : ∀ b ∈ b0, base <= b) (hbase : base <= w.heap.size) (h : RVRels S w args vals) (hS : ∀ b, S b -> b ∉ b0) (hp : paramAVs args = some as) {n : Nat} (hn : as.length + 1 <= n) :
  RE (cxM S base w ch b0) ((mkCon t.isAgg (leaves t x (fun i => .at_ (.pn i)) 0) :: as) ++ List.replicate (n - (as.length + 1)) .skip) ((mkV t.isAgg ch :: vals).toArray ++ Array.replicate (n - (mkV t.isAgg ch :: vals).toArray.size) undef) w := by
 obtain ⟨k1, cs0, k2⟩ := Y5c (c := cxM S base w ch b0) h hp
 obtain ⟨l1, l2, bds, l3, l4, l5⟩ := Y5d (S := fun _ => False) t 0 hrep
 rw [l4] at hnd
 obtain ⟨d1, d2⟩ := Y15 hnd
 let as' : List AV := mkCon t.isAgg (leaves t x (fun i => .at_ (.pn i)) 0) :: as
 let vals' : List Value := mkV t.isAgg ch :: vals
 have hsz : vals'.toArray.size = as'.length := by simp [vals', as', k1]
 let env : Env := as' ++ List.replicate (n - (as.length + 1)) .skip
 let tmps : Array Value := vals'.toArray ++ Array.replicate (n - vals'.toArray.size) undef
 have hasl : as'.length = as.length + 1 := rfl
 have hel : env.length = n := by simp [env, as']; omega
 have htl : tmps.size = n := by simp [tmps, vals']; omega
 let cs : Nat -> List Value := fun r => match r with | 0 => ch | r + 1 => cs0 r
 let bs : Nat -> Nat -> List Nat := fun r l => match r, l with | 0, l + 1 => bds.getD l [] | _, _ => []
 let s : St := SS env noP tmps noV w cs bs
 have hbs : ∀ r l b, b ∈ bs r l -> r = 0 /\ ∃ l', l = l' + 1 /\ b ∈ bds.getD l' [] /\ b ∈ b0 := fun r l b hb => by
  cases r with
  | succ r => simp [bs] at hb
  | zero => cases l with
   | zero => simp [bs] at hb
   | succ l => exact ⟨rfl, l, rfl, hb, by rw [l4]; exact Yo hb⟩
 have hRoS : ∀ b, S b -> RoS (cxM S base w ch b0) s b := fun b hb => ⟨fun r l hm => hS b hb (let ⟨_, _, _, _, h⟩ := hbs r l b hm; h), .inl hb⟩
 have hget : ∀ r, r < as'.length -> ovl env noP r = get as' r /\ ovlT tmps noV r = vals'.getD r undef := fun r hr => by
  refine ⟨by rw [Y7 (by omega)]; exact Y29 _ _ _ hr, ?_⟩
  show (if r < tmps.size then tmps.getD r undef else _) = _
  rw [if_pos (by omega)]
  have : r < vals'.length := by simpa using (show r < vals'.toArray.size by omega)
  simp [tmps, this, Array.getD_eq_getD_getElem?, Array.getElem?_append, List.getD_eq_getElem?_getD]
 have hav : ∀ r, AVRel (cxM S base w ch b0) s r (ovl env noP r) (ovlT tmps noV r) /\ (ovl env noP r).refs = [] /\ (ovl env noP r).ptrs = [] := fun r => by
  by_cases h1 : r < as'.length
  ·rw [(hget r h1).1, (hget r h1).2]
   cases r with
   | succ r => exact k2 r (by rw [hasl] at h1; omega) s (r + 1) rfl hRoS (fun l => rfl) rfl
   | zero =>
    have hr0 := Yg (k := if t.isAgg then .agg else .val) l2
    refine ⟨?_, hr0.1, hr0.2⟩
    show AVRel (cxM S base w ch b0) s 0 (.con (if t.isAgg then .agg else .val) (leaves t x (fun i => .at_ (.pn i)) 0)) (mkV t.isAgg ch)
    refine ⟨?_, l1, fun l hl => ?_, fun l lf u hl hu => ?_⟩
    ·exact (Y1o (w := s.w) (fun ha => by rw [hrep.len]; exact Y2i ha)).bare rfl
    ·show bds.getD l [] = []
     rw [List.getD_eq_getElem?_getD, List.getElem?_eq_none (by omega)]
     rfl
    ·obtain ⟨m, e1, e2, e3⟩ := l5 l lf u (by rw [<- Y1]; exact hl) hu
     have hu : ch[l]? = some u := hu
     obtain ⟨t', x', m'⟩ := lf
     simp only at e1 e3
     subst e1
     refine LeafRel.of_rep ?_ (Rep.move (S := fun _ => False) (fun _ h => h.elim) (fun _ _ => rfl) e3)
     rcases e2 with rfl | rfl
     ·trivial
     ·show u = ch.getD (0 + l) undef
      rw [Nat.zero_add, List.getD_eq_getElem?_getD, hu]
      rfl
  ·by_cases h2 : r < n
   ·have e1 : ovl env noP r = .skip := by
     rw [Y7 (by omega)]
     show get (as' ++ _) r = _
     rw [Y2a _ _ _ (by omega), Y5u _ _ _ (by omega)]
    have e2 : ovlT tmps noV r = undef := by
     show (if r < tmps.size then tmps.getD r undef else _) = _
     rw [if_pos (by omega)]
     simp only [tmps, Array.getD_eq_getD_getElem?]
     rw [Array.getElem?_append_right (by omega), Array.getElem?_replicate]
     split <;> rfl
    rw [e1, e2]
    refine ⟨⟨rfl, fun l => ?_⟩, rfl, rfl⟩
    cases r with
    | zero => rw [hasl] at h1; omega
    | succ r => rfl
   ·have e1 : ovl env noP r = .undef := by rw [Yf (by omega)]; rfl
    rw [e1]
    refine ⟨fun l => ?_, rfl, rfl⟩
    cases r with
    | zero => rw [hasl] at h1; omega
    | succ r => rfl
 have hlt : ∀ b ∈ b0, b < w.heap.size := Rep.lt hrep
 refine ⟨noV, by rw [hel, htl], cs, bs, ⟨Below.refl _ _, hbase, fun r l b hb => ?_, fun r l r' l' b hb hb' => ?_, fun r l => ?_, fun r => (hav r).1, fun b hb => ⟨hb.1, fun r l hm => ?_, rfl⟩⟩, fun r => ?_⟩
 ·obtain ⟨_, _, _, _, h⟩ := hbs r l b hb
  exact ⟨⟨hb0 b h, fun hf => hf.2 h⟩, hlt b h⟩
 ·obtain ⟨rfl, l1', rfl, h1, _⟩ := hbs r l b hb
  obtain ⟨rfl, l2', rfl, h2, _⟩ := hbs r' l' b hb'
  rw [d2 l1' l2' b h1 h2]
  exact ⟨rfl, rfl⟩
 ·cases r with
  | succ r => exact List.nodup_nil
  | zero => cases l with
   | zero => exact List.nodup_nil
   | succ l => exact d1 l
 ·obtain ⟨_, _, _, _, h⟩ := hbs r l b hm
  exact hb.2 h
 ·rw [(hav r).2.1, (hav r).2.2]
  exact ⟨by simp, by simp⟩
end Go.FP
