/- How Go values lie in memory, and an evaluator of code with its soundness (part 4 of 6). Conditions: those that stand in each theorem; nothing is assumed of any program. -/
import Derived.Test.YtpbgkahaplnfmaaGreatFpC

set_option linter.unusedVariables false
set_option linter.unusedSimpArgs false
set_option linter.unnecessarySimpa false

namespace Go.FP
open Go.RowKit
theorem Y4g : ∀ {t : Ty}, t.flatB = true -> ∀ t' ∈ flat t, t'.flatB = true
 | .int k, _, t', h => by simp [flat] at h; subst h; rfl
 | .bool, _, t', h => by simp [flat] at h; subst h; rfl
 | .str, _, t', h => by simp [flat] at h; subst h; rfl
 | .slice _ _, hf, _, _ => by simp [Ty.flatB] at hf
 | .unit, _, t', h => by simp [flat] at h
 | .pair a b, hf, t', h => by
  simp only [Ty.flatB, Bool.and_eq_true] at hf
  simp only [flat, List.mem_append] at h
  rcases h with h | h
  ·exact Y4g hf.1 t' h
  ·exact Y4g hf.2 t' h
theorem Y2q : ∀ {rs : List (Ty × Lvl)} {xs : List (Σ t : Ty, t.D)} {sh : List (Bool × Nat)} {ls : List Leaf}, allFlat rs = true -> resLeaves rs xs = some (sh, ls) -> ∀ lf ∈ ls, lf.t.flatB = true
 | [], [], sh, ls, _, h, lf, hl => by
  simp only [resLeaves, Option.some.injEq, Prod.mk.injEq] at h
  obtain ⟨rfl, rfl⟩ := h
  simp at hl
 | [], _ :: _, sh, ls, _, h, lf, hl => by simp [resLeaves] at h
 | _ :: _, [], sh, ls, _, h, lf, hl => by simp [resLeaves] at h
 | (t, fr) :: rs, x :: xs, sh, ls, ha, h, lf, hl => by
  simp only [allFlat, Bool.and_eq_true] at ha
  simp only [resLeaves] at h
  split at h
  ·cases hr : resLeaves rs xs with
   | none => rw [hr] at h; simp at h
   | some q =>
    obtain ⟨sh', ls'⟩ := q
    rw [hr] at h
    simp only [Option.some.injEq, Prod.mk.injEq] at h
    obtain ⟨rfl, rfl⟩ := h
    rcases List.mem_append.1 hl with hl | hl
    ·obtain ⟨lf0, hl0, rfl⟩ := List.mem_map.1 hl
     have : lf0.t ∈ flat t := by rw [<- Yu t _ (newMode fr) 0]; exact List.mem_map.2 ⟨lf0, hl0, rfl⟩
     exact Y4g ha.1 _ this
    ·exact Y2q ha.2 hr lf hl
  ·simp at h
theorem Yb7 {rs : List (Ty × Lvl)} {xs : List (Σ t : Ty, t.D)} {k : Kind} {ls : List Leaf} (hf : allFlat rs = true) (ha : resAV rs xs = some (.con k ls)) : ∀ lf ∈ ls, lf.t.flatB = true := by
 unfold resAV at ha
 cases hr : resLeaves rs xs with
 | none => rw [hr] at ha; simp at ha
 | some q =>
  obtain ⟨sh, ls'⟩ := q
  rw [hr] at ha
  simp only [mkCon] at ha
  split at ha
  ·simp only [Option.some.injEq, AV.con.injEq] at ha
   rw [<- ha.2]; exact Y2q hf hr
  ·simp only [Option.some.injEq, AV.con.injEq] at ha
   rw [<- ha.2]; exact Y2q hf hr
theorem Y52 {lv m : Lvl} : ∀ (t : Ty) (x : t.D) (n : Nat), ∀ lf ∈ leaves t x (fun _ => .at_ lv) n, lf.t.flatB = false -> lf.m = .at_ m -> m = lv
 | .int k, x, n, lf, h, hf, hm => by simp [leaves] at h; rw [h] at hf; simp [Ty.flatB] at hf
 | .bool, x, n, lf, h, hf, hm => by simp [leaves] at h; rw [h] at hf; simp [Ty.flatB] at hf
 | .str, x, n, lf, h, hf, hm => by simp [leaves] at h; rw [h] at hf; simp [Ty.flatB] at hf
 | .slice e t, x, n, lf, h, hf, hm => by simp [leaves] at h; rw [h] at hm; simpa using hm.symm
 | .unit, x, n, lf, h, hf, hm => by simp [leaves] at h
 | .pair a b, x, n, lf, h, hf, hm => by
  simp only [leaves, List.mem_append] at h
  rcases h with h | h
  ·exact Y52 a _ _ _ h hf hm
  ·exact Y52 b _ _ _ h hf hm
structure MutSet (env : Env) (ls ns : List Leaf) (L : Places) : Prop where
 len : ls.length = ns.length
 here : ∀ (i : Nat) (l n : Leaf), ls[i]? = some l -> ns[i]? = some n -> (l.t.flatB = true /\ l.m.live = true) \/ (l.t.flatB = false /\ ∃ (r j : Nat) (t0 : Ty) (x0 : t0.D) (lv : Lvl), l.m = .bor r j [] /\ (get env r).leaf? j = some ⟨t0, x0, .at_ lv⟩ /\ lv.deep = true /\ lookM L r j = some ⟨n.t, n.x, .at_ lv⟩)
 back : ∀ (r j : Nat) (m : Leaf), lookM L r j = some m -> ∃ (i : Nat) (l n : Leaf) (lv : Lvl) (t0 : Ty) (x0 : t0.D), ls[i]? = some l /\ ns[i]? = some n /\ l.t.flatB = false /\ l.m = .bor r j [] /\ m = ⟨n.t, n.x, .at_ lv⟩ /\ lv.deep = true /\ (get env r).leaf? j = some ⟨t0, x0, .at_ lv⟩
 uniq : ∀ (i i' : Nat) (l l' : Leaf) (r j : Nat), ls[i]? = some l -> ls[i']? = some l' -> l.t.flatB = false -> l'.t.flatB = false -> l.m = .bor r j [] -> l'.m = .bor r j [] -> i = i'
theorem Y5w {env : Env} : ∀ {ls ns : List Leaf} {L : Places}, mutSet env ls ns = some L -> MutSet env ls ns L
 | [], [], L, h => by
  simp only [mutSet, Option.some.injEq] at h
  subst h
  exact ⟨rfl, by simp, fun r j m h => by simp [lookM] at h, by simp⟩
 | [], _ :: _, L, h => by simp [mutSet] at h
 | _ :: _, [], L, h => by simp [mutSet] at h
 | l :: ls, n :: ns, L, h => by
  simp only [mutSet] at h
  split at h
  ·simp at h
  ·rename_i L0 h0
   obtain ⟨k1, k2, k3, k4⟩ := Y5w h0
   split at h
   ·rename_i hf
    split at h
    ·rename_i hlv
     simp only [Option.some.injEq] at h
     subst h
     refine ⟨by simp [k1], fun i l' n' hl hn => ?_, fun r j m hm => ?_, fun i i' l1 l2 r j h1 h2 f1 f2 m1 m2 => ?_⟩
     ·cases i with
      | zero => simp only [List.getElem?_cons_zero, Option.some.injEq] at hl; subst hl; exact .inl ⟨hf, hlv⟩
      | succ i => exact k2 i l' n' hl hn
     ·obtain ⟨i, h⟩ := k3 r j m hm
      exact ⟨i + 1, h⟩
     ·cases i with
      | zero => simp only [List.getElem?_cons_zero, Option.some.injEq] at h1; subst h1; rw [hf] at f1; simp at f1
      | succ i => cases i' with
       | zero => simp only [List.getElem?_cons_zero, Option.some.injEq] at h2; subst h2; rw [hf] at f2; simp at f2
       | succ i' => rw [k4 i i' l1 l2 r j h1 h2 f1 f2 m1 m2]
    ·simp at h
   ·rename_i hf
    have hf : l.t.flatB = false := by simpa using hf
    split at h
    ·rename_i r0 j0 hm0
     split at h
     ·rename_i t0 x0 lv hpl
      split at h
      ·rename_i hc
       obtain ⟨hd, hnone⟩ := hc
       have hnone : lookM L0 r0 j0 = none := by simpa using hnone
       simp only [Option.some.injEq] at h
       subst h
       have look : ∀ r j, ¬ (r = r0 /\ j = j0) -> lookM ((r0, j0, (⟨n.t, n.x, .at_ lv⟩ : Leaf)) :: L0) r j = lookM L0 r j := fun r j h => by simp only [lookM]; rw [if_neg h]
       have look0 : lookM ((r0, j0, (⟨n.t, n.x, .at_ lv⟩ : Leaf)) :: L0) r0 j0 = some ⟨n.t, n.x, .at_ lv⟩ := by simp [lookM]
       have tail : ∀ (i : Nat) (l' : Leaf), ls[i]? = some l' -> l'.t.flatB = false -> l'.m ≠ .bor r0 j0 [] := fun i l' h1 f1 m1 => by
        have hlt : i < ns.length := by rw [<- k1]; exact (List.getElem?_eq_some_iff.1 h1).1
        rcases k2 i l' _ h1 (List.getElem?_eq_getElem hlt) with ⟨h, _⟩ | ⟨_, r, j, t1, x1, lv1, e1, _, _, e2⟩
        ·rw [f1] at h; simp at h
        ·rw [m1] at e1
         simp only [Mode.bor.injEq, and_true] at e1
         obtain ⟨rfl, rfl⟩ := e1
         rw [hnone] at e2; simp at e2
       refine ⟨by simp [k1], fun i l' n' hl hn => ?_, fun r j m hm => ?_, fun i i' l1 l2 r j h1 h2 f1 f2 m1 m2 => ?_⟩
       ·cases i with
        | zero =>
         simp only [List.getElem?_cons_zero, Option.some.injEq] at hl hn
         subst hl; subst hn
         exact .inr ⟨hf, r0, j0, t0, x0, lv, hm0, hpl, hd, look0⟩
        | succ i =>
         rcases k2 i l' n' hl hn with h | ⟨h1, r, j, t1, x1, lv1, e1, e2, e3, e4⟩
         ·exact .inl h
         ·refine .inr ⟨h1, r, j, t1, x1, lv1, e1, e2, e3, ?_⟩
          rw [look r j (fun h => tail i l' hl h1 (by rw [e1, h.1, h.2]))]
          exact e4
       ·by_cases hrj : r = r0 /\ j = j0
        ·obtain ⟨rfl, rfl⟩ := hrj
         rw [look0] at hm
         simp only [Option.some.injEq] at hm
         subst hm
         exact ⟨0, l, n, lv, t0, x0, rfl, rfl, hf, hm0, rfl, hd, hpl⟩
        ·rw [look r j hrj] at hm
         obtain ⟨i, h⟩ := k3 r j m hm
         exact ⟨i + 1, h⟩
       ·cases i with
        | zero =>
         simp only [List.getElem?_cons_zero, Option.some.injEq] at h1
         subst h1
         rw [hm0] at m1
         simp only [Mode.bor.injEq, and_true] at m1
         obtain ⟨rfl, rfl⟩ := m1
         cases i' with
         | zero => rfl
         | succ i' => exact absurd m2 (tail i' l2 h2 f2)
        | succ i =>
         cases i' with
         | zero =>
          simp only [List.getElem?_cons_zero, Option.some.injEq] at h2
          subst h2
          rw [hm0] at m2
          simp only [Mode.bor.injEq, and_true] at m2
          obtain ⟨rfl, rfl⟩ := m2
          exact absurd m1 (tail i l1 h1 f1)
         | succ i' => rw [k4 i i' l1 l2 r j h1 h2 f1 f2 m1 m2]
      ·simp at h
     ·simp at h
    ·simp at h
def MutOk (c : Cx) (env : Env) (tmps : Array Value) (w : World) (vs : Nat -> Value) (bs : Nat -> Nat -> List Nat) (t : Ty) (cells : List Value) (ls : List Leaf) (x y : t.D) (L : Places) : Prop :=
 ∃ b0 : List Nat, Rep (fun _ => False) w t .dp cells x b0 /\ b0.Nodup /\ (∀ b ∈ b0, ∃ q ∈ ls.flatMap Leaf.refs, b ∈ bs q.1 (q.2 + 1)) /\
  ∀ (w' : World) (b1 : List Nat), Below c.base w w' -> (∀ b, b < w.heap.size -> b ∉ b0 -> w'.heap[b]? = w.heap[b]?) -> Rep (fun _ => False) w' t .dp cells y b1 -> b1.Nodup -> (∀ b ∈ b1, b ∈ b0 \/ w.heap.size <= b) -> RP c (syncs L env) tmps w' noP vs
section
variable {c : Cx} {env : Env} {tmps : Array Value} {w : World} {vs : Nat -> Value} {cs : Nat -> List Value} {bs : Nat -> Nat -> List Nat}
theorem Y7i {bds : List (List Nat)} {l b : Nat} (h : b ∈ bds.getD l []) : l < bds.length := by
 rw [List.getD_eq_getElem?_getD] at h
 cases hl : bds[l]? with
 | none => rw [hl] at h; simp at h
 | some x => exact (List.getElem?_eq_some_iff.1 hl).1
theorem Ydh (hlen : env.length = tmps.size) (hrel : Rel c (SS env noP tmps vs w cs bs)) (hno : ∀ r, (∀ q ∈ (ovl env noP r).refs, q.1 < env.length) /\ (∀ q ∈ (ovl env noP r).ptrs, q < env.length)) {t : Ty} {k : Kind} {ls : List Leaf} {v : Value} {cells : List Value} {x y : t.D} {L : Places}
  (hv : ValC c (SS env noP tmps vs w cs bs) (.con k ls) v cells) (hty : typedAs ls t = true) (hx : asm t ls = some (x, [])) (hM : mutSet env ls (leaves t y (fun _ => .at_ .dp) 0) = some L) : MutOk c env tmps w vs bs t cells ls x y L := by
 obtain ⟨k1, k2, k3, k4⟩ := Y5w hM
 obtain ⟨g1, g2, g3⟩ := hv
 have hty' : ls.map Leaf.t = flat t := by simpa [typedAs] using hty
 have hls : ls.length = t.sz := Y12 hty
 -- a row's place
 have place : ∀ (i : Nat) (l : Leaf) (u : Value) (r j : Nat) (t0 : Ty) (x0 : t0.D) (lv : Lvl), ls[i]? = some l -> cells[i]? = some u -> l.m = .bor r j [] -> (get env r).leaf? j = some ⟨t0, x0, .at_ lv⟩ -> lv.deep = true -> (cs r)[j]? = some u /\ t0 = l.t /\ Rep (fun _ => False) w l.t .dp [u] l.x (bs r (j + 1)) := by
  intro i l u r j t0 x0 lv hl hu hm hp hd
  have h6 := g3 i l u (by rw [Y1]; exact hl) hu
  obtain ⟨lt, lx, lm⟩ := l
  simp only at hm
  subst hm
  obtain ⟨_, ⟨lf', u', ⟨o1, o2, o3⟩, h5⟩, _⟩ := h6
  obtain ⟨mm, rfl, rfl⟩ := h5 rfl
  have hrl : r < env.length := Y29 hp
  have o1 : (ovl env noP r).leaf? j = some _ := o1
  rw [Y8 hrl, hp] at o1
  simp only [Option.some.injEq, Leaf.mk.injEq] at o1
  obtain ⟨rfl, hx0, rfl⟩ := o1
  have hx0 : x0 = lx := eq_of_heq hx0
  subst hx0
  refine ⟨o3, rfl, ?_⟩
  have hav := hrel.av r
  rw [show (SS env noP tmps vs w cs bs).env r = get env r from Y8 hrl] at hav
  cases hv : get env r with
  | con kk ls0 =>
   rw [hv] at hav hp
   exact Rep.dpS ((Rep.deep hd).1 (hav.2.2.2 j _ _ hp o3).rep)
  | _ => rw [hv] at hp; simp [AV.leaf?] at hp
 let F : Nat -> List Nat := fun i => match ls[i]? with
  | some l => if l.t.flatB then [] else (match l.m with | .bor r j _ => bs r (j + 1) | _ => [])
  | none => []
 have hFi : ∀ {i : Nat} {l : Leaf}, ls[i]? = some l -> F i = if l.t.flatB then [] else (match l.m with | .bor r j _ => bs r (j + 1) | _ => []) := fun {i l} h => by
  show (match ls[i]? with | some l => _ | none => _) = _
  rw [h]
 have hns : (leaves t y (fun _ => .at_ .dp) 0).length = ls.length := k1.symm
 have hF : ∀ (i b : Nat), b ∈ F i -> ∃ (l : Leaf) (r j : Nat), ls[i]? = some l /\ l.t.flatB = false /\ l.m = .bor r j [] /\ b ∈ bs r (j + 1) := by
  intro i b hb
  cases hl : ls[i]? with
  | none =>
   have : F i = [] := by show (match ls[i]? with | some l => _ | none => _) = _; rw [hl]
   rw [this] at hb; simp at hb
  | some l =>
   rw [hFi hl] at hb
   have hlt : i < (leaves t y (fun _ => .at_ .dp) 0).length := by rw [hns]; exact (List.getElem?_eq_some_iff.1 hl).1
   rcases k2 i l _ hl (List.getElem?_eq_getElem hlt) with ⟨h, _⟩ | ⟨h, r, j, t0, x0, lv, e1, _⟩
   ·rw [h] at hb; simp at hb
   ·rw [h, e1] at hb
    exact ⟨l, r, j, rfl, h, e1, by simpa using hb⟩
 have hFb : ∀ {i : Nat} {l : Leaf} {r j : Nat}, ls[i]? = some l -> l.t.flatB = false -> l.m = .bor r j [] -> F i = bs r (j + 1) := fun {i l r j} h1 h2 h3 => by
  rw [hFi h1, h2, h3]; rfl
 obtain ⟨c0, c1, e0, _, e2, e3, _⟩ := Y2m (S := fun _ => False) (w := w) (L := .dp) (F := F) t (k := 0) hx g2 (fun l lf u hl hu => by
  rw [Nat.zero_add]
  have hlt : l < (leaves t y (fun _ => .at_ .dp) 0).length := by rw [hns]; exact (List.getElem?_eq_some_iff.1 hl).1
  rcases k2 l lf _ hl (List.getElem?_eq_getElem hlt) with ⟨h1, h2⟩ | ⟨h1, r, j, t0, x0, lv, m1, m2, m3, _⟩
  ·have h6 := (g3 l lf u (by rw [Y1]; exact hl) hu).rep (S := fun _ => True) h2 (fun _ _ => trivial) (fun _ _ _ _ => trivial)
   rw [hFi hl, h1]
   exact (Rep.flat h1 h6).2
  ·rw [hFb hl h1 m1]
   exact (place l lf u r j t0 x0 lv hl hu m1 m2 m3).2.2)
 have hc1 : c1 = [] := List.length_eq_zero_iff.1 (by rw [<- e2]; rfl)
 subst hc1
 rw [List.append_nil] at e0
 subst e0
 have hFnd : ∀ i, (F i).Nodup := fun i => by
  cases hl : ls[i]? with
  | none =>
   have : F i = [] := by show (match ls[i]? with | some l => _ | none => _) = _; rw [hl]
   rw [this]; exact List.nodup_nil
  | some l =>
   rw [hFi hl]
   split
   ·exact List.nodup_nil
   ·split
    ·exact hrel.nodup _ _
    ·exact List.nodup_nil
 have hFd : ∀ i i' b, b ∈ F i -> b ∈ F i' -> i = i' := fun i i' b h1 h2 => by
  obtain ⟨l, r, j, a1, a2, a3, a4⟩ := hF i b h1
  obtain ⟨l', r', j', b1, b2, b3, b4⟩ := hF i' b h2
  obtain ⟨rfl, hj⟩ := hrel.disj _ _ _ _ _ a4 b4
  obtain rfl : j = j' := by omega
  exact k4 i i' l l' r j a1 b1 a2 b2 a3 b3
 refine ⟨(List.range' 0 t.sz).flatMap F, e3, Y20 hFnd hFd _ _, fun b hb => ?_, fun w' b1 hbel hsame hrep' hnd1 hnew => ?_⟩
 ·simp only [List.mem_flatMap] at hb
  obtain ⟨i, _, hb⟩ := hb
  obtain ⟨l, r, j, a1, a2, a3, a4⟩ := hF i b hb
  exact ⟨(r, j), List.mem_flatMap.2 ⟨l, List.mem_of_getElem? a1, by simp [Leaf.refs, a3]⟩, a4⟩
 ·obtain ⟨n1, n2, bds, n3, n4, n5⟩ := Y33 .dp t 0 hrep'
  rw [n4] at hnd1 hnew
  obtain ⟨d1, d2⟩ := Y19 hnd1
  have hb0 : ∀ b, b ∈ (List.range' 0 t.sz).flatMap F -> ∃ q' j' n', lookM L q' j' = some n' /\ b ∈ bs q' (j' + 1) := fun b hb => by
   simp only [List.mem_flatMap] at hb
   obtain ⟨i, _, hb⟩ := hb
   obtain ⟨l, r, j, a1, a2, a3, a4⟩ := hF i b hb
   have hlt : i < (leaves t y (fun _ => .at_ .dp) 0).length := by rw [hns]; exact (List.getElem?_eq_some_iff.1 a1).1
   rcases k2 i l _ a1 (List.getElem?_eq_getElem hlt) with ⟨h, _⟩ | ⟨_, r', j', t0, x0, lv, m1, _, _, m4⟩
   ·rw [a2] at h; simp at h
   ·rw [a3] at m1
    simp only [Mode.bor.injEq, and_true] at m1
    obtain ⟨rfl, rfl⟩ := m1
    exact ⟨r, j, _, m4, a4⟩
  have hb0' : ∀ q j n, lookM L q j = some n -> ∀ b ∈ bs q (j + 1), b ∈ (List.range' 0 t.sz).flatMap F := fun q j n hk b hb => by
   obtain ⟨i, l, nn, lv, t0, x0, a1, a2, a3, a4, _⟩ := k3 q j n hk
   refine List.mem_flatMap.2 ⟨i, ?_, by rw [hFb a1 a3 a4]; exact hb⟩
   rw [List.mem_range'_1]
   have := (List.getElem?_eq_some_iff.1 a1).1
   omega
  -- which leaf
  have idx : ∀ q j n, lookM L q j = some n -> ∃ (i : Nat), (∃ (l nn : Leaf), ls[i]? = some l /\ (leaves t y (fun _ => .at_ .dp) 0)[i]? = some nn /\ l.t.flatB = false /\ l.m = .bor q j [] /\ nn.t = n.t /\ HEq nn.x n.x) := fun q j n hk => by
   obtain ⟨i, l, nn, lv, t0, x0, a1, a2, a3, a4, a5, _⟩ := k3 q j n hk
   exact ⟨i, l, nn, a1, a2, a3, a4, by rw [a5], by rw [a5]⟩
  classical
  let bd : Nat -> Nat -> List Nat := fun q j => if h : ∃ (i : Nat) (l : Leaf), ls[i]? = some l /\ l.t.flatB = false /\ l.m = .bor q j [] then bds.getD (Classical.choose h) [] else []
  have hbd : ∀ {q j i : Nat} {l : Leaf}, ls[i]? = some l -> l.t.flatB = false -> l.m = .bor q j [] -> bd q j = bds.getD i [] := fun {q j i l} h1 h2 h3 => by
   have hex : ∃ (i : Nat) (l : Leaf), ls[i]? = some l /\ l.t.flatB = false /\ l.m = .bor q j [] := ⟨i, l, h1, h2, h3⟩
   show (if h : _ then _ else _) = _
   rw [dif_pos hex]
   obtain ⟨l', e1, e2, e3⟩ := Classical.choose_spec hex
   rw [k4 _ _ _ _ _ _ e1 h1 e2 h2 e3 h3]
  have hLok : ∀ q j n, lookM L q j = some n -> ∃ x lv, (get env q).leaf? j = some ⟨n.t, x, .at_ lv⟩ /\ n.m = .at_ lv /\ lv.deep = true := fun q j n hk => by
   obtain ⟨i, l, nn, lv, t0, x0, a1, a2, a3, a4, a5, a6, a7⟩ := k3 q j n hk
   have hcl : i < cells.length := by rw [<- g2]; exact (List.getElem?_eq_some_iff.1 a1).1
   obtain ⟨_, p2, _⟩ := place i l _ q j t0 x0 lv a1 (List.getElem?_eq_getElem hcl) a4 a7 a6
   have htt : nn.t = l.t := by
    have h1 : ((leaves t y (fun _ => .at_ .dp) 0).map Leaf.t)[i]? = some nn.t := by rw [List.getElem?_map, a2]; rfl
    have h2 : (ls.map Leaf.t)[i]? = some l.t := by rw [List.getElem?_map, a1]; rfl
    rw [Yu, <- hty', h2] at h1
    exact (Option.some.inj h1).symm
   subst a5
   have e : nn.t = t0 := by rw [htt, p2]
   exact ⟨e ▸ x0, lv, by rw [a7]; cases e; rfl, rfl, a6⟩
  refine RP.syncsAt hlen hrel hno hLok hbel (fun b hb hD => hsame b hb (fun hb2 => ?_)) bd (fun q j n hk b hb => ?_) (fun q j n hk => ?_) (fun q j n q' j' n' b hk hk' hb hb' => ?_) (fun q j n u hk hu => ?_)
  ·obtain ⟨q', j', n', h1, h2⟩ := hb0 b hb2
   exact hD q' j' n' h1 h2
  ·obtain ⟨i, l, nn, a1, a2, a3, a4, _⟩ := idx q j n hk
   rw [hbd a1 a3 a4] at hb
   have hi := Y7i hb
   obtain ⟨m, _, hr⟩ := n5 i nn (cells[i]'(by omega)) a2 (List.getElem?_eq_getElem (by omega))
   refine ⟨Rep.lt hr b hb, ?_⟩
   rcases hnew b (Yn hb) with h | h
   ·exact .inr (hb0 b h)
   ·exact .inl h
  ·obtain ⟨i, l, nn, a1, a2, a3, a4, _⟩ := idx q j n hk
   rw [hbd a1 a3 a4]
   exact d1 i
  ·obtain ⟨i, l, nn, a1, a2, a3, a4, _⟩ := idx q j n hk
   obtain ⟨i', l', nn', b1, b2, b3, b4, _⟩ := idx q' j' n' hk'
   rw [hbd a1 a3 a4] at hb
   rw [hbd b1 b3 b4] at hb'
   have := d2 i i' b hb hb'
   subst this
   rw [a1] at b1
   simp only [Option.some.injEq] at b1
   subst b1
   rw [a4] at b4
   simp only [Mode.bor.injEq, and_true] at b4
   exact b4
  ·obtain ⟨i, l, nn, lv, t0, x0, a1, a2, a3, a4, a5, a6, a7⟩ := k3 q j n hk
   have hcl : i < cells.length := by rw [<- g2]; exact (List.getElem?_eq_some_iff.1 a1).1
   obtain ⟨p1, p2, _⟩ := place i l _ q j t0 x0 lv a1 (List.getElem?_eq_getElem hcl) a4 a7 a6
   rw [hu] at p1
   obtain rfl := Option.some.inj p1
   obtain ⟨m, hm, hr⟩ := n5 i nn _ a2 (List.getElem?_eq_getElem hcl)
   rw [hbd a1 a3 a4]
   subst a5
   have hmode := Y1n t y 0 nn (List.mem_of_getElem? a2)
   have hnf : nn.t.flatB = false := by
    have h1 : ((leaves t y (fun _ => .at_ .dp) 0).map Leaf.t)[i]? = some nn.t := by rw [List.getElem?_map, a2]; rfl
    have h2 : (ls.map Leaf.t)[i]? = some l.t := by rw [List.getElem?_map, a1]; rfl
    rw [Yu, <- hty', h2] at h1
    rw [<- Option.some.inj h1]; exact a3
   have hmd : m = .dp := Y52 t y 0 nn (List.mem_of_getElem? a2) hnf hm
   subst hmd
   exact hr
end
end Go.FP

namespace Go.FP
open Go.RowKit
section
variable {c : Cx} {env : Env} {tmps : Array Value} {w : World} {vs : Nat -> Value} {cs : Nat -> List Value} {bs : Nat -> Nat -> List Nat}
end
end Go.FP

namespace Go.FP
open Go.RowKit
section
variable {P : Program} {o : Oper} {a : Act} {w : World} {R : Type} {K : Env -> Option R} {r : R} {next : Act -> World -> Prop} {Q : Exit -> Act -> World -> Prop} {c : Cx} {d : Nat} {T : Tab} {env : Env} {sig : FuncId -> Option Sig} {caps : FuncId -> List Ty} {orc : Orc}
theorem Ydi {tmps : Array Value} {vs : Nat -> Value} {cs : Nat -> List Value} {bs : Nat -> Nat -> List Nat} (hlen : env.length = tmps.size) (hrel : Rel c (SS env noP tmps vs w cs bs)) (hno : ∀ r, (∀ q ∈ (ovl env noP r).refs, q.1 < env.length) /\ (∀ q ∈ (ovl env noP r).ptrs, q < env.length)) {t : Ty} {k : Kind} {ls ls' : List Leaf} {v : Value} {cells : List Value} {x y : t.D} {L : Places}
  (hv : ValC c (SS env noP tmps vs w cs bs) (.con k ls) v cells) (hty : typedAs ls t = true) (hnow : argNow env ls = some ls') (hx : asm t ls' = some (x, [])) (hM : mutOf env ls (leaves t y (fun _ => .at_ .dp) 0) = some L) : MutOk c env tmps w vs bs t cells ls x y L := by
 obtain rfl : ls' = ls := (Option.some.inj hnow).symm
 exact Ydh hlen hrel hno hv hty hx hM
theorem Y6w {qs : List (Nat × Nat)} {v : AV} (h : apart qs v = true) : (∀ q ∈ v.refs, q ∉ qs) /\ (∀ r ∈ v.ptrs, ∀ q ∈ qs, r ≠ q.1) := by
 simp only [apart, Bool.and_eq_true, List.all_eq_true, Bool.not_eq_true', Bool.and_eq_false_iff, beq_eq_false_iff_ne] at h
 refine ⟨fun q hq hm => ?_, fun r hr q hq => h.2 r hr q hq⟩
 have := h.1 q hq q hm
 rcases this with h | h <;> exact h rfl
theorem Ycu (hO : OrcOk P sig orc) {cl : Call} {f : FuncId} {extra : List AV} {ex : List Value} (hop : o.op = .call cl) (hdst : o.dst = some d) (hr : RE c env a.tmps w) (hd : d < env.length)
  (hrun : Enterable P f -> (execOp a.eval o).run P w = .ok (.enter f (cl.args.map (evT a.tmps) ++ ex.toArray)) w) (hex : ∀ vs cs bs, Rel c (SS env noP a.tmps vs w cs bs) -> ValCs c (SS env noP a.tmps vs w cs bs) extra ex)
  {sg : Sig} (hsg : sig f = some sg) (hbx : sg.box = none /\ sg.newb = none) (hm : sg.muts = true) (how : sg.own = false) (hK : callM caps orc (some d) f sg cl.args.toList extra env K = some r) (hn : Next c a K r env.length next) : o.wp P a w next Q := by
 unfold callM at hK
 split at hK
 ·rename_i t ps a0 as hps has
  split at hK
  ·rename_i k ls hrd
   simp only at hK
   split at hK
   ·rename_i hc
    obtain ⟨⟨hk, hty⟩, ⟨hl1, hl2⟩, hfl, hap⟩ := hc
    cases hnow : argNow env ls with
    | none => rw [hnow] at hK; simp at hK
    | some ls' =>
     rw [hnow] at hK
     simp only [Option.bind_some] at hK
     split at hK
     ·rename_i x hx
      split at hK
      ·simp at hK
      ·rename_i rvs hrv
       split at hK
       ·simp at hK
       ·rename_i q hq
        obtain ⟨z0, hres, hK⟩ := Option.bind_eq_some_iff.1 hK
        obtain ⟨hent, hspec⟩ := hO f sg _ q z0 hsg hq hres
        rw [hbx.1, hbx.2, hm, how] at hspec
        replace hspec : ∃ t x0 rest y ys, _ /\ _ /\ FnSpecMut P f sg.results t x0 rest y ys := hspec
        obtain ⟨t', x0, rest, y, ys, e1, e2, hspec⟩ := hspec
        simp only [List.cons.injEq, RV.val.injEq] at e1
        obtain ⟨⟨rfl, e1⟩, rfl⟩ := e1
        have e1 : x = x0 := eq_of_heq e1
        subst e1
        rw [e2] at hK
        simp only [dif_pos] at hK
        split at hK
        ·simp at hK
        ·rename_i L hM
         cases hra : resAV sg.results ys with
         | none => rw [hra] at hK; simp at hK
         | some av =>
          rw [hra] at hK
          simp only at hK
          obtain ⟨vs, hlen, cs, bs, hrel, hno⟩ := hr
          have hr : RE c env a.tmps w := ⟨vs, hlen, cs, bs, hrel, hno⟩
          obtain ⟨cells, hv⟩ := Yg hlen hrel (some t) a0
          rw [hrd] at hv
          obtain ⟨b0, hrep, hnd, hin, hafter⟩ := Ydi hlen hrel hno hv hty hnow hx hM
          have hval : evT a.tmps a0 = mkV t.isAgg cells := by
           obtain ⟨g1, _⟩ := hv
           subst hk
           unfold Ty.kind at g1
           unfold mkV
           split at g1
           ·rename_i ha
            rw [ha]; exact g1.1
           ·rename_i ha
            have ha : t.isAgg = false := by simpa using ha
            rw [ha, g1.1]; rfl
          generalize hvs : rdArgs env ps as ++ extra = avs at *
          have hargl : as.length <= ps.length := by rw [<- hl1, hl2]; omega
          have hvals : ValCs c (SS env noP a.tmps vs w cs bs) avs (as.map (evT a.tmps) ++ ex) := by
           rw [<- hvs]
           exact (Y3f hlen hrel hargl).1.append (hex vs cs bs hrel)
          let S : Nat -> Prop := fun b => RoS c (SS env noP a.tmps vs w cs bs) b \/ (∃ v ∈ avs, ∃ q ∈ v.refs, b ∈ bs q.1 (q.2 + 1)) \/ ∃ v ∈ avs, ∃ q ∈ v.ptrs, ∃ l, b ∈ bs q l
          have hrvr : RVRels S w rvs (as.map (evT a.tmps) ++ ex) :=
           Y5n hrel (fun b hb => .inl hb) hvals hrv (fun v hv q hq b hb => .inr (.inl ⟨v, hv, q, hq, hb⟩)) (fun v hv q hq l b hb => .inr (.inr ⟨v, hv, q, hq, l, hb⟩))
          have hS : ∀ b, S b -> b ∉ b0 := by
           intro b hb hb0
           obtain ⟨q, hq, hbq⟩ := hin b hb0
           rcases hb with hb | ⟨v, hv, q', hq', hb⟩ | ⟨v, hv, q', hq', l, hb⟩
           ·exact hb.1 _ _ hbq
           ·have := Y6w (List.all_eq_true.1 hap v hv)
            obtain ⟨h1, h2⟩ := hrel.disj _ _ _ _ _ hb hbq
            refine this.1 q' hq' ?_
            have : q' = q := Prod.ext h1 (by omega)
            rw [this]; exact hq
           ·have := Y6w (List.all_eq_true.1 hap v hv)
            exact this.2 q' hq' q hq (hrel.disj _ _ _ _ _ hb hbq).1
          have hb0 : ∀ b ∈ b0, c.base <= b := fun b hb => let ⟨q, _, h⟩ := hin b hb; (hrel.own _ _ _ h).1.1
          unfold Oper.wp
          rw [hrun hent]
          show Calls P f _ w _
          have hargs : cl.args.map (evT a.tmps) ++ ex.toArray = (mkV t.isAgg cells :: (as.map (evT a.tmps) ++ ex)).toArray := by
           rw [<- hval, show evT a.tmps a0 :: (as.map (evT a.tmps) ++ ex) = (cl.args.toList.map (evT a.tmps) ++ ex) by rw [has]; rfl]
           rw [<- List.append_toArray, <- List.map_toArray, Array.toArray_toList]
          rw [hargs]
          refine Calls.mono (hspec S w cells _ b0 c.base hrep hnd hb0 hrel.base hrvr hS) ?_
          rintro e w' ⟨chs, bsx, b1, rfl, hb, hsame, hrep', hnd1, hnew, hres'⟩
          show next (a.put o.dst (resVal sg.results chs)) w'
          rw [hdst]
          have hRP := hafter w' b1 hb hsame hrep' hnd1 hnew
          obtain ⟨k', ls2, rfl, h1, h2, h3, bds, h4, h5, h6⟩ := Y4x hres' hra
          have hflat := Yb7 hfl hra
          have hmode := Y4d hra
          have hsl : (syncs L env).length = env.length := Y1v _ _
          have hadd := hRP.addVal (n := (syncs L env).length) (Nat.le_refl _) rfl (av := .con k' ls2) (v := resVal sg.results chs) (fun cs' bs' hrel' => by
           refine ⟨chs.flatten, h1.bare rfl, h2, fun l lf u hl hu => ?_⟩
           rw [Y1] at hl
           obtain ⟨m, hm', hr'⟩ := h6 l lf u hl hu
           have hf := hflat lf (List.mem_of_getElem? hl)
           have hmd := hmode lf (List.mem_of_getElem? hl)
           obtain ⟨lt, lx, lm⟩ := lf
           simp only at hm' hr'
           subst hm'
           exact ⟨(Rep.flat hf hr').2, by cases m <;> first | trivial | exact absurd rfl (hmd _)⟩) (by
           have := Yd (k := k') h3
           rw [this.1, this.2]
           exact ⟨by simp, by simp⟩)
          have := RE.commit hadd (by rw [hsl]; exact hd)
          rw [Y0] at this
          exact hn _ _ _ hK this (by rw [Y1c, hsl]) rfl
     ·simp at hK
   ·simp at hK
  ·simp at hK
 ·simp at hK
end
end Go.FP

namespace Go.FP
open Go.RowKit
theorem Y5x {c : Cx} {env : Env} {w : World} {tmps : Array Value} {ps : Nat -> AV} {vs : Nat -> Value} {cs : Nat -> List Value} {bs : Nat -> Nat -> List Nat} (hlen : env.length = tmps.size) (h : Rel c (SS env ps tmps vs w cs bs)) : ∀ {ptys : List PTy} {args : List Operand}, args.length <= ptys.length -> ValCs c (SS env ps tmps vs w cs bs) (rdArgs env ptys args) (args.map (evT tmps))
 | [], [], _ => rfl
 | p :: ptys, [], _ => rfl
 | [], x :: args, hl => by simp at hl
 | p :: ptys, x :: args, hl => ⟨_, _, rfl, Yg hlen h _ x, Y5x hlen h (ptys := ptys) (args := args) (by simpa using hl)⟩
section
variable {P : Program} {o : Oper} {a : Act} {w : World} {R : Type} {K : Env -> Option R} {r : R} {next : Act -> World -> Prop} {Q : Exit -> Act -> World -> Prop} {c : Cx} {d : Nat} {T : Tab} {env : Env} {sig : FuncId -> Option Sig} {caps : FuncId -> List Ty} {orc : Orc}
theorem RP.handed {tmps : Array Value} {ps : Nat -> AV} {vs : Nat -> Value} (hlen : env.length = tmps.size) {cs : Nat -> List Value} {bs : Nat -> Nat -> List Nat} (hr : Rel c (SS env ps tmps vs w cs bs)) (hno : ∀ r, (∀ q ∈ (ovl env ps r).refs, q.1 < env.length) /\ (∀ q ∈ (ovl env ps r).ptrs, q < env.length)) {n : Nat} (hn : env.length <= n) {t : Ty} {x : t.D} (hp : ps n = .con .val [⟨t, x, .at_ .dp⟩]) :
  Rep (fun _ => False) w t .dp [vs n] x (bs n 1) /\ ∀ (w' : World) (v' : Value) (y : t.D) (b1 : List Nat), Below c.base w w' -> (∀ b, b < w.heap.size -> b ∉ bs n 1 -> w'.heap[b]? = w.heap[b]?) -> Rep (fun _ => False) w' t .dp [v'] y b1 -> b1.Nodup -> (∀ b ∈ b1, b ∈ bs n 1 \/ w.heap.size <= b) ->
   RP c env tmps w' (upd ps n (.con .val [⟨t, y, .at_ .dp⟩])) (upd vs n v') := by
 obtain ⟨hrep, hb0, hcn⟩ := Y4f hlen hr hn hp
 refine ⟨Rep.dpS hrep, fun w' v' y b1 hb hh hrep' hnd hin => ?_⟩
 have e : upd (upd ps n .undef) n (.con .val [⟨t, y, .at_ .dp⟩]) = upd ps n (.con .val [⟨t, y, .at_ .dp⟩]) := by
  funext r; simp only [upd]; split <;> rfl
 have := RP.reformAt hlen hr hno (n := n) (m := n) hn hn (av := .con .val [⟨t, y, .at_ .dp⟩]) (v := v') (w' := w') ⟨by simp [AV.refs, Leaf.refs], by simp [AV.ptrs]⟩ hb (fun b hb' hne => hh b hb' (hne 1)) [v'] (fun l => if l = 1 then b1 else []) ?_ ?_ ?_ ?_
 ·rw [e] at this; exact this
 ·intro l b hb'
  by_cases hl : l = 1
  ·subst hl
   rw [if_pos rfl] at hb'
   refine ⟨Rep.lt hrep' b hb', ?_⟩
   rcases hin b hb' with h | h
   ·exact .inr ⟨1, .inl h⟩
   ·exact .inl h
  ·rw [if_neg hl] at hb'; simp at hb'
 ·intro l l' b h1 h2
  by_cases hl : l = 1
  ·by_cases hl' : l' = 1
   ·rw [hl, hl']
   ·rw [if_neg hl'] at h2; simp at h2
  ·rw [if_neg hl] at h1; simp at h1
 ·intro l
  by_cases hl : l = 1
  ·rw [if_pos hl]; exact hnd
  ·rw [if_neg hl]; exact List.nodup_nil
 ·intro s' hk
  have ebs : s'.bs n = fun l => if l = 1 then b1 else [] := Y0 _ _ _
  have ecs : s'.cs n = [v'] := Y0 _ _ _
  refine ⟨⟨ecs, by rw [ebs]; rfl⟩, by rw [ecs]; rfl, fun l hl => ?_, fun l lf u hl hu => ?_⟩
  ·rw [ebs]
   simp only [List.length_singleton] at hl
   exact if_neg (by omega)
  ·rw [ecs] at hu
   have hl0 : l = 0 := by
    rw [Y1] at hl
    have := (List.getElem?_eq_some_iff.1 hl).1
    simpa using this
   subst hl0
   obtain rfl : lf = ⟨t, y, .at_ .dp⟩ := by simpa [leafAt] using hl.symm
   obtain rfl : u = v' := by simpa using hu.symm
   refine LeafRel.of_rep trivial ?_
   rw [ebs]
   exact Rep.dpS hrep'
theorem Ycv (hO : OrcOk P sig orc) {cl : Call} {f : FuncId} {extra : List AV} {ex : List Value} (hop : o.op = .call cl) (hdst : o.dst = some d) (hr : RE c env a.tmps w) (hd : d < env.length)
  (hrun : Enterable P f -> (execOp a.eval o).run P w = .ok (.enter f (cl.args.map (evT a.tmps) ++ ex.toArray)) w) (hex : ∀ vs cs bs, Rel c (SS env noP a.tmps vs w cs bs) -> ValCs c (SS env noP a.tmps vs w cs bs) extra ex)
  {sg : Sig} (hsg : sig f = some sg) (hbx : sg.box = none /\ sg.newb = none) (hm : sg.muts = true) (how : sg.own = true) (hK : callO caps orc (some d) f sg cl.args.toList extra env K = some r) (hn : Next c a K r env.length next) : o.wp P a w next Q := by
 unfold callO at hK
 split at hK
 ·rename_i t ps a0 as hps has
  split at hK
  ·rename_i env2 l hg
   split at hK
   ·rename_i x hx
    simp only at hK
    split at hK
    ·rename_i hc
     obtain ⟨⟨hex0, hlm, hagg⟩, ⟨hl1, hl2⟩, hap⟩ := hc
     split at hK
     ·simp at hK
     ·rename_i rvs hrv
      split at hK
      ·simp at hK
      ·rename_i q hq
       obtain ⟨z0, hres, hK⟩ := Option.bind_eq_some_iff.1 hK
       obtain ⟨hent, hspec⟩ := hO f sg _ q z0 hsg hq hres
       rw [hbx.1, hbx.2, hm, how] at hspec
       replace hspec : ∃ t x0 rest y, _ /\ _ /\ FnSpecOwn P f t x0 rest y := hspec
       obtain ⟨t', x0, rest, y, e1, e2, hspec⟩ := hspec
       simp only [List.cons.injEq, RV.val.injEq] at e1
       obtain ⟨⟨rfl, e1⟩, rfl⟩ := e1
       have e1 : x = x0 := eq_of_heq e1
       subst e1
       rw [e2] at hK
       simp only [if_pos] at hK
       have hex0 : extra = [] := by simpa using hex0
       subst hex0
       obtain ⟨vs, hRP⟩ := hr
       have hexv : ex = [] := by
        obtain ⟨_, cs, bs, hrel, _⟩ := hRP
        exact hex vs cs bs hrel
       subst hexv
       obtain ⟨hl, h1⟩ := Y7r hRP (fun _ => .inl rfl) hg (n := env.length) (Nat.le_refl _) rfl
       have hle := Leaf.as_eq hx
       rw [hlm] at hle
       rw [hle] at h1
       obtain ⟨hlen, cs, bs, hrel, hno⟩ := h1
       obtain ⟨hrep, hafter⟩ := RP.handed hlen hrel hno (n := env.length) (by omega) (Y0 _ _ _)
       rw [Y0] at hrep
       have hb0 : ∀ b ∈ bs env.length 1, c.base <= b := fun b hb => (hrel.own _ _ _ hb).1.1
       have hargl : as.length <= ps.length := by omega
       have hvals := Y5x hlen hrel hargl
       have hap' : ∀ v ∈ rdArgs env2 ps as, v.refs = [] /\ v.ptrs = [] := by
        intro v hv
        have := List.all_eq_true.1 hap v hv
        simpa using this
       have hrvr : RVRels (RoS c (SS env2 (upd noP env.length (.con .val [⟨t, x, .at_ .dp⟩])) a.tmps (upd vs env.length (evT a.tmps a0)) w cs bs)) w rvs (as.map (evT a.tmps)) :=
        Y5n hrel (fun b hb => hb) hvals hrv (fun v hv q hq => by rw [(hap' v hv).1] at hq; simp at hq) (fun v hv q hq => by rw [(hap' v hv).2] at hq; simp at hq)
       unfold Oper.wp
       rw [hrun hent]
       show Calls P f _ w _
       have hargs : cl.args.map (evT a.tmps) ++ ([] : List Value).toArray = (evT a.tmps a0 :: as.map (evT a.tmps)).toArray := by
        rw [show evT a.tmps a0 :: as.map (evT a.tmps) = cl.args.toList.map (evT a.tmps) by rw [has]; rfl]
        rw [<- List.map_toArray, Array.toArray_toList]
        simp
       rw [hargs]
       refine Calls.mono (hspec _ w _ _ _ c.base hrep (hrel.nodup _ _) hb0 hrel.base hrvr (fun b hb => hb.1 _ _)) ?_
       rintro e w' ⟨v', b1, rfl, hbel, hsame, hrep', hnd1, hnew⟩
       show next (a.put o.dst v') w'
       rw [hdst]
       have h2 := hafter w' v' y b1 hbel hsame hrep' hnd1 hnew
       have eu : upd (upd noP env.length (.con .val [⟨t, x, .at_ .dp⟩])) env.length (.con .val [⟨t, y, .at_ .dp⟩]) = upd noP env2.length (.con .val [⟨t, y, .at_ .dp⟩]) := by
        rw [hl]; funext r; simp only [upd]; split <;> rfl
       rw [eu] at h2
       have := RE.commit h2 (by rw [hl]; exact hd)
       rw [hl, Y0] at this
       exact hn _ _ _ hK this (by rw [Y1c, hl]) rfl
    ·simp at hK
   ·simp at hK
  ·simp at hK
 ·simp at hK
end
end Go.FP

namespace Go.FP
open Go.RowKit
theorem Y92 {S : Nat -> Prop} {w : World} : ∀ {xs : List Int} {cells : List Value} {b : List Nat}, El (Rep S w (.int .u8) .ro) 1 cells xs b -> cells = xs.map (Value.int .u8)
 | [], cells, b, h => h.1
 | x :: xs, cells, b, ⟨c, cs, b0, b1, e, _, _, h1, h2⟩ => by
  rw [e, h1.1, Y92 h2]; rfl
section
variable {P : Program} {o : Oper} {a : Act} {w : World} {R : Type} {K : Env -> Option R} {r : R} {next : Act -> World -> Prop} {Q : Exit -> Act -> World -> Prop} {c : Cx} {d : Nat} {T : Tab} {env : Env}
theorem Ycw (hT : TabOk P T) {s dt : TypeId} {x : Operand} {b : ByteArray} (hop : o.op = .convert s dt x) (hdst : o.dst = some d) (hr : RE c env a.tmps w) (hd : d < env.length) (hb : bytesOf T s dt (fun ty => rd ty env x) = some b)
  (hK : K (setD (some d) env (vStr b)) = some r) (hn : Next c a K r env.length next) : o.wp P a w next Q := by
 unfold bytesOf at hb
 split at hb
 ·rename_i e hs ht
  split at hb
  ·rename_i he
   split at hb
   ·rename_i lx hrd
    have hrd : rd (some (.slice e (.int .u8))) env x = .con .val [lx] := hrd
    split at hb
    ·rename_i xs has
     split at hb
     ·rename_i hl
      obtain rfl := Option.some.inj hb
      have hr0 := hr
      obtain ⟨vs, h0⟩ := hr0
      obtain ⟨cs, bs, h1, _⟩ := h0.rel
      obtain ⟨cells, hv⟩ := Yg h0.len h1 (some (.slice e (.int .u8))) x
      rw [hrd] at hv
      obtain ⟨S, hS⟩ := Y2g hv hl
      rw [Leaf.as_eq has] at hS
      obtain ⟨v, ch, b0, b1, e1, _, hel, _, A, cp, e2, hlc, hz, hc⟩ := hS
      have e1 : evT a.tmps x = v := by simpa using e1
      have hch := Y92 hel
      refine finV hr hdst (v := .string (strOfNums xs)) ?_ hd (fun vs cs bs _ => Y7g _ _ _) Y8k hK hn
      have key : (Go.convert s dt (.slice A xs.length cp)).run P w = .ok (.string (strOfNums xs)) w := by
       have hs' := TabOk.slice hT hs
       have he' := TabOk.int hT he
       have ht' := TabOk.str hT ht
       cases A with
       | none =>
        have hn0 : xs = [] := by
         have := hz rfl
         have hlc : xs.length <= cp := hlc
         exact List.length_eq_zero_iff.1 (by omega)
        subst hn0
        exact run_convert_bytes_nil w s e hs' he' 0 cp dt ht'
       | some A =>
        have hl : (loadCells A xs.length).run P w = .ok (xs.map (Value.int .u8)).toArray w := by
         have := run_loadCells_list (P := P) w A (xs.map (Value.int .u8)) (fun j u hj => by
          rw [<- hch] at hj
          obtain ⟨a', h1, _, h2⟩ := hc j u hj
          cases h1
          exact h2)
         simpa using this
        rw [run_convert_bytes_string w s dt e _ _ cp hs' he' ht', run_bytesToString w _ xs.length cp xs hl, foldl_push_bytes]
        simp [strOfNums, ByteArray.empty, ByteArray.emptyWithCapacity]
        rfl
      have key2 : (Go.convert s dt (evT a.tmps x)).run P w = .ok (.string (strOfNums xs)) w := by rw [e1, e2]; exact key
      simp [execOp, hop, Y5, key2]
     ·simp at hb
    ·simp at hb
   ·simp at hb
  ·simp at hb
 ·simp at hb
end
end Go.FP

namespace Go.FP
open Go.RowKit
theorem Ya3 (r : Nat) : Fewer (renewG r) := by
 intro r' j p l
 unfold renewG
 simp only
 split
 ·exact .inl rfl
 ·exact .inr rfl
section
variable {c : Cx} {env : Env} {w : World}
theorem RP.renewR {tmps : Array Value} {vs : Nat -> Value} {cs : Nat -> List Value} {bs : Nat -> Nat -> List Nat} (hlen : env.length = tmps.size) (hrel : Rel c (SS env noP tmps vs w cs bs)) (hno : ∀ r, (∀ q ∈ (ovl env noP r).refs, q.1 < env.length) /\ (∀ q ∈ (ovl env noP r).ptrs, q < env.length))
  {r : Nat} {e : BoxK} {ls : List Leaf} (hr : get env r = .con (.box e) ls) {B : Nat} (hB : bs r 0 = [B]) (htm : tmps.getD r undef = .pointer (some ⟨B, 0, none⟩)) {w' : World} (hbel : Below c.base w w') {ch' : List Value} {br bn : Nat -> List Nat} {ns : List Leaf} {k2 : Kind} {ls2 : List Leaf} {rv : Value} {cells2 : List Value}
  (hheap : ∀ b, b < w.heap.size -> (∀ l, b ∉ bs r l) -> w'.heap[b]? = w.heap[b]?) (hBh : w'.heap[B]? = some (.cells ch'.toArray e.id (0, 0))) (hfix : ∀ l, nthB e.fix l = true -> ch'[l]? = (cs r)[l]?)
  (hbr0 : br 0 = [B]) (hnl : ns.length = ch'.length) (hbrn : ∀ l, ns.length <= l -> br (l + 1) = []) (hn1 : ∀ l b, b ∈ br l -> b < w'.heap.size /\ (w.heap.size <= b \/ ∃ l', b ∈ bs r l')) (hn2 : ∀ l b, b ∈ bn l -> b < w'.heap.size /\ (w.heap.size <= b \/ ∃ l', b ∈ bs r l'))
  (hd1 : ∀ l l' b, b ∈ br l -> b ∈ br l' -> l = l') (hd2 : ∀ l l' b, b ∈ bn l -> b ∈ bn l' -> l = l') (hd3 : ∀ l l' b, b ∈ br l -> b ∉ bn l') (hnd1 : ∀ l, (br l).Nodup) (hnd2 : ∀ l, (bn l).Nodup)
  (hset1 : ∀ l ∈ ns, l.refs = []) (hset2 : ∀ l ∈ ls2, l.m.settled = true)
  (hleaf : let s' : St := ⟨upd (upd (chgE (renewG r) (ovl env noP)) r (.con (.box e) ns)) env.length (.con k2 ls2), upd (ovlT tmps vs) env.length rv, w', upd (upd cs r ch') env.length cells2, upd (upd bs r br) env.length bn⟩
   Keeps c (SS env noP tmps vs w cs bs) s' -> (∀ l lf u, ns[l]? = some lf -> ch'[l]? = some u -> LeafRel c s' r l u lf) /\ AVRel c s' env.length (.con k2 ls2) rv) :
  RP c (renewBox r (.box e) ns env) tmps w' (upd noP env.length (.con k2 ls2)) (upd vs env.length rv) := by
 have hrl : r < env.length := Yv hr
 have hrN : r ≠ env.length := Nat.ne_of_lt hrl
 let s' : St := ⟨upd (upd (chgE (renewG r) (ovl env noP)) r (.con (.box e) ns)) env.length (.con k2 ls2), upd (ovlT tmps vs) env.length rv, w', upd (upd cs r ch') env.length cells2, upd (upd bs r br) env.length bn⟩
 have hbN : ∀ l, bs env.length l = [] := by
  have := hrel.av env.length
  rw [show (SS env noP tmps vs w cs bs).env env.length = .undef by show ovl env noP _ = _; rw [Yo (Nat.le_refl _)]; rfl] at this
  exact this
 have eR : s'.bs r = br := by show upd (upd bs r br) env.length bn r = _; rw [Y3 _ _ hrN, Y0]
 have eN : s'.bs env.length = bn := Y0 _ _ _
 have eO : ∀ p, p ≠ r -> p ≠ env.length -> s'.env p = (ovl env noP p).chg (renewG r) /\ s'.tm p = ovlT tmps vs p /\ s'.cs p = cs p /\ s'.bs p = bs p := fun p h1 h2 => by
  refine ⟨?_, Y3 _ _ h2, ?_, ?_⟩
  ·show upd (upd _ r _) env.length _ p = _
   rw [Y3 _ _ h2, Y3 _ _ h1]; rfl
  ·show upd (upd cs r ch') env.length cells2 p = _
   rw [Y3 _ _ h2, Y3 _ _ h1]
  ·show upd (upd bs r br) env.length bn p = _
   rw [Y3 _ _ h2, Y3 _ _ h1]
 have hstep : Rel c s' := by
  refine Rel.step (s := SS env noP tmps vs w cs bs) (s' := s') (renewG r) hrel (fun p => p = r \/ p = env.length) (fun a j => ∃ lf u, OwnPlace (SS env noP tmps vs w cs bs) a j lf u) (fun a => ∃ off v, PtrRel (SS env noP tmps vs w cs bs) a off v) (fun p hp => ?_) hbel (fun b hb hne => ?_) (fun p l b hp hb => ?_) (fun p l p' l' b hp hp' hb hb' => ?_) (fun p l hp => ?_) (fun p hp => ?_) (fun hk => ⟨?_, ?_, ?_⟩) (fun hk p hp => ?_)
  ·exact eO p (fun e => hp (.inl e)) (fun e => hp (.inr e))
  ·exact hheap b hb (fun l => hne r l (.inl rfl))
  ·rcases hp with rfl | rfl
   ·rw [eR] at hb
    obtain ⟨h1, h2⟩ := hn1 l b hb
    exact ⟨h1, h2.imp id (fun ⟨l', h⟩ => ⟨p, l', .inl rfl, h⟩)⟩
   ·rw [eN] at hb
    obtain ⟨h1, h2⟩ := hn2 l b hb
    exact ⟨h1, h2.imp id (fun ⟨l', h⟩ => ⟨r, l', .inl rfl, h⟩)⟩
  ·rcases hp with rfl | rfl
   ·rcases hp' with rfl | rfl
    ·rw [eR] at hb hb'; exact ⟨rfl, hd1 _ _ _ hb hb'⟩
    ·rw [eR] at hb; rw [eN] at hb'; exact absurd hb' (hd3 _ _ _ hb)
   ·rcases hp' with rfl | rfl
    ·rw [eN] at hb; rw [eR] at hb'; exact absurd hb (hd3 _ _ _ hb')
    ·rw [eN] at hb hb'; exact ⟨rfl, hd2 _ _ _ hb hb'⟩
  ·rcases hp with rfl | rfl
   ·rw [eR]; exact hnd1 l
   ·rw [eN]; exact hnd2 l
  ·exact (hrel.av p).refs_own
  ·intro u t x r1 j p hL hbor
   unfold renewG
   simp only
   by_cases h1 : r1 = r
   ·rw [if_pos h1]
    exact ⟨rfl, Rep.one hbor.1 u (by simp)⟩
   ·rw [if_neg h1]
    refine ⟨rfl, ?_⟩
    obtain ⟨lf0, u0, h2, h3, h4⟩ := hL
    have hlt : r1 < env.length := by
     apply Nat.lt_of_not_le
     intro hge
     have : (SS env noP tmps vs w cs bs).env r1 = .undef := by show ovl env noP r1 = _; rw [Yo hge]; rfl
     rw [this] at h2; simp [AV.leaf?] at h2
    obtain ⟨o1, o2, o3, o4⟩ := eO r1 h1 (Nat.ne_of_lt hlt)
    refine BorRel.keep hk ⟨fun lf u hown => ?_, by rw [o4], fun b hb => ?_⟩ hbor
    ·obtain ⟨p1, p2, p3⟩ := hown
     refine ⟨?_, p2, by rw [o3]; exact p3⟩
     rw [o1]
     have p1 : (ovl env noP r1).leaf? j = some lf := p1
     cases hv : ovl env noP r1 with
     | con k0 ls0 =>
      rw [hv] at p1
      simp only [AV.leaf?] at p1
      simp only [AV.chg, AV.leaf?]
      rw [Ye, p1]
      obtain ⟨t0, x0, m0⟩ := lf
      cases m0 with
      | at_ lv => rfl
      | bor _ _ _ => simp [Mode.own] at p2
      | dead => simp [Mode.own] at p2
     | _ => rw [hv] at p1; simp [AV.leaf?] at p1
    ·exact hheap b (hrel.own _ _ _ hb).2 (fun l hl => h1 (hrel.disj _ _ _ _ _ hb hl).1)
  ·intro a r1 j p i o hL hwr
   unfold renewG
   simp only
   by_cases h1 : r1 = r
   ·subst h1
    simp
   ·rw [show (r1 == r) = false from by simpa using h1]
    simp only [Bool.false_eq_true, if_false]
    obtain ⟨lf0, u0, h2, h3, h4⟩ := hL
    have hlt : r1 < env.length := by
     apply Nat.lt_of_not_le
     intro hge
     have : (SS env noP tmps vs w cs bs).env r1 = .undef := by show ovl env noP r1 = _; rw [Yo hge]; rfl
     rw [this] at h2; simp [AV.leaf?] at h2
    obtain ⟨o1, o2, o3, o4⟩ := eO r1 h1 (Nat.ne_of_lt hlt)
    refine WrRel0.keep hk ⟨fun lf u hown => ?_, by rw [o4], fun b hb => ?_⟩ hwr
    ·obtain ⟨p1, p2, p3⟩ := hown
     refine ⟨?_, p2, by rw [o3]; exact p3⟩
     rw [o1]
     have p1 : (ovl env noP r1).leaf? j = some lf := p1
     cases hv : ovl env noP r1 with
     | con k0 ls0 =>
      rw [hv] at p1
      simp only [AV.leaf?] at p1
      simp only [AV.chg, AV.leaf?]
      rw [Ye, p1]
      obtain ⟨t0, x0, m0⟩ := lf
      cases m0 with
      | at_ lv => rfl
      | bor _ _ _ => simp [Mode.own] at p2
      | dead => simp [Mode.own] at p2
     | _ => rw [hv] at p1; simp [AV.leaf?] at p1
    ·exact hheap b (hrel.own _ _ _ hb).2 (fun l hl => h1 (hrel.disj _ _ _ _ _ hb hl).1)
  ·intro r1 hL _
   obtain ⟨off, v, e0, ls0, B0, q1, q2, q3⟩ := hL
   have q1 : ovl env noP r1 = .con (.box e0) ls0 := q1
   have hlt : r1 < env.length := by
    apply Nat.lt_of_not_le
    intro hge
    rw [Yo hge] at q1
    exact AV.noConfusion q1
   refine ⟨Y3 _ _ (Nat.ne_of_lt hlt), fun e1 ls1 h1 => ?_⟩
   by_cases h2 : r1 = r
   ·subst h2
    exact ⟨e, ns, by show upd (upd _ r1 _) env.length _ r1 = _; rw [Y3 _ _ hrN, Y0]⟩
   ·have h1 : ovl env noP r1 = .con (.box e1) ls1 := h1
    exact ⟨e1, chgs (renewG r) ls1, by rw [(eO r1 h2 (Nat.ne_of_lt hlt)).1, h1]; rfl⟩
  ·obtain ⟨hl1, hl2⟩ := hleaf hk
   rcases hp with rfl | rfl
   ·have ee : s'.env p = .con (.box e) ns := by show upd (upd _ p _) env.length _ p = _; rw [Y3 _ _ hrN, Y0]
    have et : s'.tm p = .pointer (some ⟨B, 0, none⟩) := by
     show upd (ovlT tmps vs) env.length rv p = _
     rw [Y3 _ _ hrN]
     exact (if_pos (by omega)).trans htm
    have ec : s'.cs p = ch' := by show upd (upd cs p ch') env.length cells2 p = _; rw [Y3 _ _ hrN, Y0]
    have hav := hrel.av p
    rw [show (SS env noP tmps vs w cs bs).env p = .con (.box e) ls by show ovl env noP p = _; rw [Y8 hrl]; exact hr] at hav
    obtain ⟨⟨B1, g1, g2, g3, g4, g5⟩, _⟩ := hav
    rw [ee, et]
    refine ⟨⟨B, rfl, by rw [ec]; exact hBh, by rw [eR]; exact hbr0, fun hp => ?_, fun l hl => ?_⟩, by rw [ec]; exact hnl, fun l hl => by rw [eR]; exact hbrn l hl, fun l lf u hl hu => hl1 l lf u (by rw [<- Y1]; exact hl) (by rw [ec] at hu; exact hu)⟩
    ·rw [<- g4 hp, <- htm]
     exact (if_pos (by omega)).symm
    ·rw [ec, hfix l hl]; exact g5 l hl
   ·have ee : s'.env env.length = .con k2 ls2 := Y0 _ _ _
    have et : s'.tm env.length = rv := Y0 _ _ _
    rw [ee, et]
    exact hl2
 have hbl : (renewBox r (.box e) ns env).length = env.length := by unfold renewBox; rw [Y7, Y6]
 have e1 : upd (upd (chgE (renewG r) (ovl env noP)) r (.con (.box e) ns)) env.length (.con k2 ls2) = ovl (renewBox r (.box e) ns env) (upd noP env.length (.con k2 ls2)) := by
  rw [Yf (by rw [hbl]; exact Nat.le_refl _)]
  congr 1
  funext p
  by_cases hp : p < env.length
  ·rw [Y8 (by rw [hbl]; exact hp)]
   unfold renewBox
   rw [Y49 (by rw [Y6]; exact hrl), Y7f]
   by_cases h1 : p = r
   ·rw [h1, Y0, Y0]
   ·rw [Y3 _ _ h1, Y3 _ _ h1]
    show (ovl env noP p).chg _ = (get env p).chg _
    rw [Y8 hp]
  ·rw [Yo (by rw [hbl]; omega), Y3 _ _ (by omega)]
   show (ovl env noP p).chg _ = _
   rw [Yo (by omega)]; rfl
 refine ⟨by rw [hbl]; exact hlen, _, _, Rel.congr hstep e1 (Y1a (by omega) rv).symm, fun p => ?_⟩
 rw [hbl, <- e1]
 by_cases h2 : p = env.length
 ·rw [h2, Y0, (Yd hset2).1, (Yd hset2).2]
  exact ⟨by simp, by simp⟩
 ·rw [Y3 _ _ h2]
  by_cases h1 : p = r
  ·rw [h1, Y0]
   refine ⟨fun q hq => ?_, by simp [AV.ptrs]⟩
   simp only [AV.refs, List.mem_flatMap] at hq
   obtain ⟨l, hl, hq⟩ := hq
   rw [hset1 l hl] at hq; simp at hq
  ·rw [Y3 _ _ h1]
   have := Yl (Ya3 r) (ovl env noP p)
   exact ⟨fun q hq => (hno p).1 q (this.1 q hq), fun q hq => (hno p).2 q (this.2 q hq)⟩
end
end Go.FP

namespace Go.FP
open Go.RowKit
theorem Y3g {b : BoxSig} : ∀ {ls : List Leaf} {n l : Nat} {lf : Leaf}, boxFits b n ls = true -> ls[l]? = some lf -> lf.m.settled = true /\ (∀ e τ, lf.t = .slice e τ -> (slotAt b.lv (n + l)).isFx = true \/ lf.m = b.md (n + l))
 | [], n, l, lf, _, hl => by simp at hl
 | a :: ls, n, 0, lf, h, hl => by
  obtain rfl : a = lf := by simpa using hl
  simp only [boxFits, Bool.and_eq_true] at h
  refine ⟨h.1.1, fun e τ ht => ?_⟩
  have := h.1.2
  rw [ht] at this
  simpa using this
 | a :: ls, n, l + 1, lf, h, hl => by
  simp only [boxFits, Bool.and_eq_true] at h
  have := Y3g (n := n + 1) (l := l) h.2 (by simpa using hl)
  rwa [show n + 1 + l = n + (l + 1) by omega] at this
theorem Y6x {b : BoxSig} : ∀ {ls : List Leaf} {n l : Nat} {lf : Leaf}, boxCalm b n ls = true -> ls[l]? = some lf -> ∀ e τ, lf.t = .slice e τ -> slotAt b.lv (n + l) = .fx \/ slotAt b.lv (n + l) = .dp
 | [], n, l, lf, _, hl => by simp at hl
 | a :: ls, n, 0, lf, h, hl => by
  obtain rfl : a = lf := by simpa using hl
  simp only [boxCalm, Bool.and_eq_true] at h
  intro e τ ht
  have := h.1
  rw [ht] at this
  simp only [Nat.add_zero]
  cases hs : slotAt b.lv n <;> rw [hs] at this <;> simp_all
 | a :: ls, n, l + 1, lf, h, hl => by
  simp only [boxCalm, Bool.and_eq_true] at h
  have := Y6x (n := n + 1) (l := l) h.2 (by simpa using hl)
  rwa [show n + 1 + l = n + (l + 1) by omega] at this
theorem Y6y {b : BoxSig} : ∀ {ls : List Leaf} {n l : Nat} {lf : Leaf}, boxFxRo b n ls = true -> ls[l]? = some lf -> (slotAt b.lv (n + l)).isFx = true -> lf.m.own = false
 | [], n, l, lf, _, hl => by simp at hl
 | a :: ls, n, 0, lf, h, hl => by
  obtain rfl : a = lf := by simpa using hl
  simp only [boxFxRo, Bool.and_eq_true, Bool.or_eq_true, Bool.not_eq_true'] at h
  intro hf
  rcases h.1 with h1 | h1
  ·rw [Nat.add_zero] at hf; rw [hf] at h1; cases h1
  ·exact h1
 | a :: ls, n, l + 1, lf, h, hl => by
  simp only [boxFxRo, Bool.and_eq_true] at h
  have := Y6y (n := n + 1) (l := l) h.2 (by simpa using hl)
  rwa [show n + 1 + l = n + (l + 1) by omega] at this
theorem Y53 : ∀ {fs : List Bool} {ss : List Slot} {l : Nat}, subFix fs ss = true -> nthB fs l = true -> (slotAt ss l).isFx = true
 | [], ss, l, _, h => by simp [nthB] at h
 | f :: fs, [], 0, h, h2 => by simp only [subFix, Bool.and_eq_true, Bool.not_eq_true'] at h; simp only [nthB] at h2; rw [h2] at h; simp at h
 | f :: fs, [], l + 1, h, h2 => by simp only [subFix, Bool.and_eq_true] at h; exact Y53 (ss := []) (l := l) h.2 h2
 | f :: fs, s :: ss, 0, h, h2 => by
  simp only [subFix, Bool.and_eq_true, Bool.or_eq_true, Bool.not_eq_true'] at h
  simp only [nthB] at h2
  rcases h.1 with h1 | h1
  ·rw [h2] at h1; cases h1
  ·exact h1
 | f :: fs, s :: ss, l + 1, h, h2 => by simp only [subFix, Bool.and_eq_true] at h; exact Y53 (fs := fs) (ss := ss) (l := l) h.2 h2
theorem Y3o {b : BoxSig} : ∀ {n : Nat} {ls ms : List Leaf}, ls.length = ms.length -> (mixLs b n ls ms).length = ls.length
 | n, [], [], _ => rfl
 | n, [], _ :: _, h => by simp at h
 | n, _ :: _, [], h => by simp at h
 | n, l :: ls, m :: ms, h => by simp only [mixLs, List.length_cons]; rw [Y3o (by simpa using h)]
theorem Y6c {b : BoxSig} : ∀ {n l : Nat} {ls ms : List Leaf} {lf : Leaf}, (mixLs b n ls ms)[l]? = some lf -> ((slotAt b.lv (n + l)).isFx = true /\ ls[l]? = some lf) \/ ((slotAt b.lv (n + l)).isFx = false /\ ms[l]? = some lf)
 | n, l, [], ms, lf, h => by simp [mixLs] at h
 | n, l, _ :: _, [], lf, h => by simp [mixLs] at h
 | n, 0, a :: ls, m :: ms, lf, h => by
  simp only [mixLs, List.getElem?_cons_zero, Option.some.injEq] at h
  cases hs : (slotAt b.lv n).isFx with
  | true => rw [hs] at h; exact .inl ⟨by simpa using hs, by simpa using h⟩
  | false => rw [hs] at h; exact .inr ⟨by simpa using hs, by simpa using h⟩
 | n, l + 1, a :: ls, m :: ms, lf, h => by
  simp only [mixLs, List.getElem?_cons_succ] at h
  have := Y6c (n := n + 1) (l := l) h
  rw [show n + 1 + l = n + (l + 1) by omega] at this
  simpa using this
def Leaf.dat (l : Leaf) : Σ t : Ty, t.D := ⟨l.t, l.x⟩
theorem Y6z {l : Leaf} {t : Ty} {x : t.D} (h : l.as t = some x) : l.dat = ⟨t, x⟩ := by
 rw [Leaf.as_eq h]; rfl
theorem Y5o (md : Nat -> Mode) : ∀ (t : Ty) {ls : List Leaf} {x : t.D} {rest : List Leaf} (n : Nat), asm t ls = some (x, rest) -> ∃ pre, ls = pre ++ rest /\ pre.map Leaf.dat = (leaves t x md n).map Leaf.dat
 | .unit, ls, x, rest, n, h => by
  simp only [asm, Option.some.injEq, Prod.mk.injEq] at h
  obtain ⟨_, rfl⟩ := h
  exact ⟨[], rfl, rfl⟩
 | .pair a b, ls, x, rest, n, h => by
  simp only [asm] at h
  cases ha : asm a ls with
  | none => rw [ha] at h; simp at h
  | some q =>
   obtain ⟨xa, ra⟩ := q
   rw [ha] at h
   simp only at h
   cases hb : asm b ra with
   | none => rw [hb] at h; simp at h
   | some q =>
    obtain ⟨xb, rb⟩ := q
    rw [hb] at h
    simp only [Option.some.injEq, Prod.mk.injEq] at h
    obtain ⟨rfl, rfl⟩ := h
    obtain ⟨p1, e1, k1⟩ := Y5o md a n ha
    obtain ⟨p2, e2, k2⟩ := Y5o md b (n + a.sz) hb
    exact ⟨p1 ++ p2, by rw [e1, e2, List.append_assoc], by simp only [leaves, List.map_append, k1, k2]⟩
 | .int kk, ls, x, rest, n, h => by
  cases ls with
  | nil => simp [asm] at h
  | cons l ls =>
   simp only [asm] at h
   cases hx : l.as (.int kk) with
   | none => rw [hx] at h; simp at h
   | some y =>
    rw [hx] at h
    simp only [Option.some.injEq, Prod.mk.injEq] at h
    obtain ⟨rfl, rfl⟩ := h
    exact ⟨[l], rfl, by simp only [List.map_cons, List.map_nil, Y6z hx]; rfl⟩
 | .bool, ls, x, rest, n, h => by
  cases ls with
  | nil => simp [asm] at h
  | cons l ls =>
   simp only [asm] at h
   cases hx : l.as .bool with
   | none => rw [hx] at h; simp at h
   | some y =>
    rw [hx] at h
    simp only [Option.some.injEq, Prod.mk.injEq] at h
    obtain ⟨rfl, rfl⟩ := h
    exact ⟨[l], rfl, by simp only [List.map_cons, List.map_nil, Y6z hx]; rfl⟩
 | .str, ls, x, rest, n, h => by
  cases ls with
  | nil => simp [asm] at h
  | cons l ls =>
   simp only [asm] at h
   cases hx : l.as .str with
   | none => rw [hx] at h; simp at h
   | some y =>
    rw [hx] at h
    simp only [Option.some.injEq, Prod.mk.injEq] at h
    obtain ⟨rfl, rfl⟩ := h
    exact ⟨[l], rfl, by simp only [List.map_cons, List.map_nil, Y6z hx]; rfl⟩
 | .slice e τ, ls, x, rest, n, h => by
  cases ls with
  | nil => simp [asm] at h
  | cons l ls =>
   simp only [asm] at h
   cases hx : l.as (.slice e τ) with
   | none => rw [hx] at h; simp at h
   | some y =>
    rw [hx] at h
    simp only [Option.some.injEq, Prod.mk.injEq] at h
    obtain ⟨rfl, rfl⟩ := h
    exact ⟨[l], rfl, by simp only [List.map_cons, List.map_nil, Y6z hx]; rfl⟩
theorem Y1w (md : Nat -> Mode) : ∀ (t : Ty) (x : t.D) (n l : Nat) (lf : Leaf), (leaves t x md n)[l]? = some lf -> (lf.t.flatB = true /\ lf.m = .at_ .ro) \/ ((∃ e τ, lf.t = .slice e τ) /\ lf.m = md (n + l))
 | .unit, x, n, l, lf, h => by simp [leaves] at h
 | .int _, x, n, 0, lf, h => by simp only [leaves, List.getElem?_cons_zero, Option.some.injEq] at h; subst h; exact .inl ⟨rfl, rfl⟩
 | .bool, x, n, 0, lf, h => by simp only [leaves, List.getElem?_cons_zero, Option.some.injEq] at h; subst h; exact .inl ⟨rfl, rfl⟩
 | .str, x, n, 0, lf, h => by simp only [leaves, List.getElem?_cons_zero, Option.some.injEq] at h; subst h; exact .inl ⟨rfl, rfl⟩
 | .slice e τ, x, n, 0, lf, h => by simp only [leaves, List.getElem?_cons_zero, Option.some.injEq] at h; subst h; exact .inr ⟨⟨e, τ, rfl⟩, rfl⟩
 | .int _, x, n, l + 1, lf, h => by simp [leaves] at h
 | .bool, x, n, l + 1, lf, h => by simp [leaves] at h
 | .str, x, n, l + 1, lf, h => by simp [leaves] at h
 | .slice _ _, x, n, l + 1, lf, h => by simp [leaves] at h
 | .pair a b, x, n, l, lf, h => by
  simp only [leaves] at h
  have ha : (leaves a x.1 md n).length = a.sz := by
   have := congrArg List.length (Yu a x.1 md n)
   rw [List.length_map] at this
   rw [this, Y1o]
  by_cases hl : l < a.sz
  ·rw [List.getElem?_append_left (by omega)] at h
   exact Y1w md a x.1 n l lf h
  ·rw [List.getElem?_append_right (by omega), ha] at h
   have := Y1w md b x.2 (n + a.sz) (l - a.sz) lf h
   rwa [show n + a.sz + (l - a.sz) = n + l by omega] at this
end Go.FP

namespace Go.FP
open Go.RowKit
section
variable {c : Cx} {env : Env} {tmps : Array Value} {w : World} {ps : Nat -> AV} {vs : Nat -> Value} {cs : Nat -> List Value} {bs : Nat -> Nat -> List Nat} {caps : FuncId -> List Ty} {S : Nat -> Prop}
theorem Y7w {s : St} : ∀ {avs : List AV} {us : List Value} {k : Nat} {av : AV}, ValCs c s avs us -> nthL avs k = some av -> ∃ u cells, us[k]? = some u /\ ValC c s av u cells
 | [], us, k, av, _, h => by simp [nthL] at h
 | v :: avs, us, 0, av, ⟨u, us', e, ⟨cells, hv⟩, _⟩, h => by
  simp only [nthL, Option.some.injEq] at h
  subst h; subst e
  exact ⟨u, cells, rfl, hv⟩
 | v :: avs, us, k + 1, av, ⟨u, us', e, _, h2⟩, h => by
  simp only [nthL] at h
  obtain ⟨u2, cells, h3, h4⟩ := Y7w h2 h
  subst e
  exact ⟨u2, cells, by simpa using h3, h4⟩
theorem Y93 {t : Ty} {r : Nat} : ∀ {ptys : List PTy} {avs : List AV} {rvs : List RV} {k : Nat}, RVsX caps env r ptys avs = some rvs -> nthL ptys k = some (.ptr t) -> nthL avs k = some (.path r 0) -> ∃ x, nthL rvs k = some (.ptr t x) /\ ptrOf env t r 0 = some x
 | [], avs, rvs, k, _, h, _ => by simp [nthL] at h
 | p :: ptys, [], rvs, k, _, _, h => by simp [nthL] at h
 | p :: ptys, v :: avs, rvs, k, ho, h1, h2 => by
  simp only [RVsX] at ho
  cases hx : RVofX caps env r p v with
  | none => rw [hx] at ho; simp at ho
  | some x =>
   cases hxs : RVsX caps env r ptys avs with
   | none => rw [hx, hxs] at ho; simp at ho
   | some xs =>
    rw [hx, hxs] at ho
    simp only [Option.some.injEq] at ho
    subst ho
    cases k with
    | zero =>
     simp only [nthL, Option.some.injEq] at h1 h2
     subst h1; subst h2
     simp only [RVofX, RVof] at hx
     cases hp : ptrOf env t r 0 with
     | none => rw [hp] at hx; simp at hx
     | some y =>
      rw [hp] at hx
      simp only [Option.some.injEq] at hx
      subst hx
      exact ⟨y, rfl, rfl⟩
    | succ k => exact Y93 (ptys := ptys) (avs := avs) (rvs := xs) (k := k) hxs h1 h2
theorem Y5y {r : Nat} {v : AV} (h : apartR r v = true) : (∀ q ∈ v.refs, q.1 ≠ r) /\ ∀ q ∈ v.ptrs, q ≠ r := by
 simp only [apartR, Bool.and_eq_true, List.all_eq_true, Bool.not_eq_true', beq_eq_false_iff_ne] at h
 exact h
theorem Y5z {r : Nat} {v : AV} (h : apartX r v = true) : (∃ f cs, v = .fptr f cs) \/ apartR r v = true := by
 unfold apartX at h
 split at h
 ·exact .inl ⟨_, _, rfl⟩
 ·exact .inr h
theorem RVRelX.of {pb : Value} {x : RV} {v : Value} (h : RVRel S w x v) : RVRelX S w pb x v := by
 cases x with
 | fptr f cs => exact h.elim
 | _ => exact h
theorem Y94 {p : PTy} {f : FuncId} {cs : List Cap} : RVof caps env p (.fptr f cs) = none := by
 cases p <;> rfl
theorem Y70 (h : Rel c (SS env ps tmps vs w cs bs)) (h1 : ∀ b, RoS c (SS env ps tmps vs w cs bs) b -> S b) {r B : Nat} (htm : (SS env ps tmps vs w cs bs).tm r = .pointer (some ⟨B, 0, none⟩)) {v : Value} : ∀ {ts : List Ty} {cps : List Cap} {us : List Value} {rcs : List RCap}, CapRels c (SS env ps tmps vs w cs bs) v cps us -> capRVs env r ts cps = some rcs ->
  (∀ q ∈ capRoots cps, q ≠ r -> ∀ l, ∀ b ∈ bs q l, S b) -> RCapRels S w (.pointer (some ⟨B, 0, none⟩)) v rcs us
 | [], [], us, rcs, hc, ho, _ => by simp only [capRVs, Option.some.injEq] at ho; subst ho; exact hc
 | [], _ :: _, us, rcs, hc, ho, _ => by simp [capRVs] at ho
 | _ :: _, [], us, rcs, hc, ho, _ => by simp [capRVs] at ho
 | t :: ts, cp :: cps, us, rcs, ⟨u, us', e, hc1, hc2⟩, ho, h3 => by
  simp only [capRVs] at ho
  cases hx : capRV env r t cp with
  | none => rw [hx] at ho; simp at ho
  | some x =>
   cases hxs : capRVs env r ts cps with
   | none => rw [hx, hxs] at ho; simp at ho
   | some xs =>
    rw [hx, hxs] at ho
    simp only [Option.some.injEq] at ho
    subst ho
    refine ⟨u, us', e, ?_, Y70 h h1 htm hc2 hxs (fun q hq => h3 q (by simp only [capRoots, List.mem_append]; exact .inr hq))⟩
    cases cp with
    | path r' off =>
     simp only [capRV] at hx
     by_cases hr : r' = r
     ·rw [if_pos hr] at hx
      split at hx
      ·rename_i hoff
       simp only [Option.some.injEq] at hx
       subst hx; subst hr; subst hoff
       obtain ⟨e1, ls1, B1, _, k2, k3⟩ := hc1
       rw [htm] at k2
       have : B = B1 := by simpa using k2
       subst this
       exact k3
      ·simp at hx
     ·rw [if_neg hr] at hx
      split at hx
      ·rename_i y hy
       simp only [Option.some.injEq] at hx
       subst hx
       exact Y4w h hy hc1 h1 (h3 r' (by simp [capRoots, Cap.roots]) hr)
      ·simp at hx
    | ro y =>
     simp only [capRV, Option.some.injEq] at hx
     subst hx
     exact PtrV.move (fun b hb _ => ⟨h1 b hb, rfl⟩) hc1
    | self =>
     simp only [capRV, Option.some.injEq] at hx
     subst hx
     exact hc1
theorem Y7x (h : Rel c (SS env ps tmps vs w cs bs)) (h1 : ∀ b, RoS c (SS env ps tmps vs w cs bs) b -> S b) {r B : Nat} (htm : (SS env ps tmps vs w cs bs).tm r = .pointer (some ⟨B, 0, none⟩)) {p : PTy} {av : AV} {u : Value} {cells : List Value} {x : RV} (hv : ValC c (SS env ps tmps vs w cs bs) av u cells) (ho : RVofX caps env r p av = some x) (hap : apartX r av = true)
  (h2 : ∀ q ∈ av.refs, ∀ b ∈ bs q.1 (q.2 + 1), S b) (h3 : ∀ q ∈ av.ptrs, q ≠ r -> ∀ l, ∀ b ∈ bs q l, S b) : RVRelX S w (.pointer (some ⟨B, 0, none⟩)) x u := by
 by_cases hps : p = .self
 ·subst hps
  simp only [RVofX] at ho
  split at ho
  ·rename_i f cps
   split at ho
   ·rename_i xs hxs
    simp only [Option.some.injEq] at ho
    subst ho
    obtain ⟨us, B1, k1, k2, k3, k4, k5⟩ := hv
    exact ⟨B1, us, k1, h1 _ k2, k3, k4, Y70 h h1 htm k5 hxs h3⟩
   ·simp at ho
  ·simp at ho
 ·have ho : RVof caps env p av = some x := by
   cases p with
   | self => exact absurd rfl hps
   | _ => exact ho
  rcases Y5z hap with ⟨f, cps, rfl⟩ | hap
  ·rw [Y94] at ho; simp at ho
  ·exact RVRelX.of (Y8s h hv ho h1 h2 (fun q hq => h3 q hq ((Y5y hap).2 q hq)))
theorem Y95 (h : Rel c (SS env ps tmps vs w cs bs)) (h1 : ∀ b, RoS c (SS env ps tmps vs w cs bs) b -> S b) {r B : Nat} (htm : (SS env ps tmps vs w cs bs).tm r = .pointer (some ⟨B, 0, none⟩)) : ∀ {ptys : List PTy} {avs : List AV} {us : List Value} {rvs : List RV}, ValCs c (SS env ps tmps vs w cs bs) avs us -> RVsX caps env r ptys avs = some rvs -> (∀ v ∈ avs, apartX r v = true) ->
  (∀ v ∈ avs, ∀ q ∈ v.refs, ∀ b ∈ bs q.1 (q.2 + 1), S b) -> (∀ v ∈ avs, ∀ q ∈ v.ptrs, q ≠ r -> ∀ l, ∀ b ∈ bs q l, S b) -> RVRelsY S w (.pointer (some ⟨B, 0, none⟩)) rvs us
 | [], [], us, rvs, hv, ho, _, _, _ => by simp only [RVsX, Option.some.injEq] at ho; subst ho; exact hv
 | [], _ :: _, us, rvs, _, ho, _, _, _ => by simp [RVsX] at ho
 | _ :: _, [], us, rvs, _, ho, _, _, _ => by simp [RVsX] at ho
 | p :: ptys, v :: avs, us, rvs, ⟨u, us', e, ⟨cells, hv1⟩, hv2⟩, ho, hap, h2, h3 => by
  simp only [RVsX] at ho
  cases hx : RVofX caps env r p v with
  | none => rw [hx] at ho; simp at ho
  | some x =>
   cases hxs : RVsX caps env r ptys avs with
   | none => rw [hx, hxs] at ho; simp at ho
   | some xs =>
    rw [hx, hxs] at ho
    simp only [Option.some.injEq] at ho
    subst ho
    exact ⟨u, us', e, Y7x h h1 htm hv1 hx (hap v List.mem_cons_self) (h2 v List.mem_cons_self) (h3 v List.mem_cons_self), Y95 h h1 htm hv2 hxs (fun v hv => hap v (List.mem_cons_of_mem _ hv)) (fun v hv => h2 v (List.mem_cons_of_mem _ hv)) (fun v hv => h3 v (List.mem_cons_of_mem _ hv))⟩
theorem Y96 (h : Rel c (SS env ps tmps vs w cs bs)) (h1 : ∀ b, RoS c (SS env ps tmps vs w cs bs) b -> S b) {r B : Nat} (htm : (SS env ps tmps vs w cs bs).tm r = .pointer (some ⟨B, 0, none⟩)) : ∀ {k : Nat} {ptys : List PTy} {avs : List AV} {us : List Value} {rvs : List RV}, ValCs c (SS env ps tmps vs w cs bs) avs us -> RVsX caps env r ptys avs = some rvs -> (∃ v, nthL avs k = some v) -> (∀ v ∈ dropAt k avs, apartX r v = true) ->
  (∀ v ∈ dropAt k avs, ∀ q ∈ v.refs, ∀ b ∈ bs q.1 (q.2 + 1), S b) -> (∀ v ∈ dropAt k avs, ∀ q ∈ v.ptrs, q ≠ r -> ∀ l, ∀ b ∈ bs q l, S b) -> RVRelsX S w (.pointer (some ⟨B, 0, none⟩)) k rvs us
 | k, ptys, [], us, rvs, _, _, ⟨v, hv⟩, _, _, _ => by simp [nthL] at hv
 | k, [], v :: avs, us, rvs, _, ho, _, _, _, _ => by simp [RVsX] at ho
 | 0, p :: ptys, v :: avs, us, rvs, ⟨u, us', e, ⟨cells, hv1⟩, hv2⟩, ho, _, hap, h2, h3 => by
  simp only [RVsX] at ho
  cases hx : RVofX caps env r p v with
  | none => rw [hx] at ho; simp at ho
  | some x =>
   cases hxs : RVsX caps env r ptys avs with
   | none => rw [hx, hxs] at ho; simp at ho
   | some xs =>
    rw [hx, hxs] at ho
    simp only [Option.some.injEq] at ho
    subst ho
    exact ⟨u, us', e, Y95 h h1 htm hv2 hxs hap h2 h3⟩
 | k + 1, p :: ptys, v :: avs, us, rvs, ⟨u, us', e, ⟨cells, hv1⟩, hv2⟩, ho, ⟨v0, hv0⟩, hap, h2, h3 => by
  simp only [RVsX] at ho
  cases hx : RVofX caps env r p v with
  | none => rw [hx] at ho; simp at ho
  | some x =>
   cases hxs : RVsX caps env r ptys avs with
   | none => rw [hx, hxs] at ho; simp at ho
   | some xs =>
    rw [hx, hxs] at ho
    simp only [Option.some.injEq] at ho
    subst ho
    exact ⟨u, us', e, Y7x h h1 htm hv1 hx (hap v (by simp [dropAt])) (h2 v (by simp [dropAt])) (h3 v (by simp [dropAt])), Y96 h h1 htm hv2 hxs ⟨v0, hv0⟩ (fun v hv => hap v (by simp [dropAt, hv])) (fun v hv => h2 v (by simp [dropAt, hv])) (fun v hv => h3 v (by simp [dropAt, hv]))⟩
end
theorem Ya4 {v : AV} (h : bareAV v = true) : v.refs = [] /\ v.ptrs = [] := by simpa [bareAV] using h
theorem Y2r {α : Type} (f : Nat -> List α) (n l : Nat) : ((List.range n).map f).getD l [] = if l < n then f l else [] := by
 rw [List.getD_eq_getElem?_getD, List.getElem?_map]
 by_cases h : l < n
 ·rw [List.getElem?_range h, if_pos h]; rfl
 ·rw [List.getElem?_eq_none (by simpa using h), if_neg h]; rfl
theorem Y2s {α : Type} {f : Nat -> List α} {n : Nat} {b : α} : b ∈ ((List.range n).map f).flatten ↔ ∃ l, l < n /\ b ∈ f l := by
 simp only [List.mem_flatten, List.mem_map, List.mem_range]
 exact ⟨fun ⟨_, ⟨l, hl, e⟩, hb⟩ => ⟨l, hl, e ▸ hb⟩, fun ⟨l, hl, hb⟩ => ⟨_, ⟨l, hl, rfl⟩, hb⟩⟩
theorem Y3p {f : Nat -> List Nat} (h1 : ∀ l, (f l).Nodup) (h2 : ∀ l l' b, b ∈ f l -> b ∈ f l' -> l = l') (n : Nat) : ((List.range n).map f).flatten.Nodup := by
 have := Y20 h1 h2 n 0
 rwa [List.flatMap_def, <- List.range_eq_range'] at this
section
variable {P : Program} {o : Oper} {a : Act} {w : World} {R : Type} {K : Env -> Option R} {rr : R} {next : Act -> World -> Prop} {Q : Exit -> Act -> World -> Prop} {c : Cx} {d : Nat} {env : Env} {caps : FuncId -> List Ty} {orc : Orc}
theorem Yb8 {tmps : Array Value} {vs : Nat -> Value} {cs : Nat -> List Value} {bs : Nat -> Nat -> List Nat} (hlen : env.length = tmps.size) (hrel : Rel c (SS env noP tmps vs w cs bs)) {r : Nat} {e : BoxK} {ls : List Leaf} (hr : get env r = .con (.box e) ls) {b : BoxSig} (hid : e.id = b.id) (hfit : boxFits b 0 ls = true) {t : Ty} {x : t.D} (has : asm t ls = some (x, [])) :
  ∃ B, tmps.getD r undef = .pointer (some ⟨B, 0, none⟩) /\ bs r 0 = [B] /\ w.heap[B]? = some (.cells (cs r).toArray b.id (0, 0)) /\ ls.length = (cs r).length /\ (∀ l, ls.length <= l -> bs r (l + 1) = []) /\ (∀ l lf u, ls[l]? = some lf -> (cs r)[l]? = some u -> LeafRel c (SS env noP tmps vs w cs bs) r l u lf) /\
   (leaves t x b.md 0).length = ls.length /\
   ∀ S : Nat -> Prop, (∀ k, RoS c (SS env noP tmps vs w cs bs) k -> k < w.heap.size -> S k) -> (∀ l, (slotAt b.lv l).isFx = true -> ∀ k ∈ bs r (l + 1), S k) ->
    LvsRel S w (fun _ => True) (leaves t x b.md 0) (cs r) ((List.range (cs r).length).map fun l => if (slotAt b.lv l).isFx then [] else bs r (l + 1)) := by
 have hrl : r < env.length := Yv hr
 have hav := hrel.av r
 rw [show (SS env noP tmps vs w cs bs).env r = .con (.box e) ls by show ovl env noP r = _; rw [Y8 hrl]; exact hr] at hav
 obtain ⟨⟨B, g1, g2, g3, _⟩, h2, h3, h4⟩ := hav
 have g1 : tmps.getD r undef = .pointer (some ⟨B, 0, none⟩) := by rw [<- g1]; exact (if_pos (by omega)).symm
 obtain ⟨pre, e1, e2⟩ := Y5o b.md t 0 has
 rw [List.append_nil] at e1
 subst e1
 have hll : (leaves t x b.md 0).length = ls.length := by have := congrArg List.length e2; simpa using this.symm
 refine ⟨B, g1, g3, hid ▸ g2, h2, h3, fun l lf u hl hu => h4 l lf u (by rw [Y1]; exact hl) hu, hll, fun S hS hfx => ⟨by rw [hll]; exact h2, by simp, fun l lf u _ hl hu => ?_⟩⟩
 have hlt : l < ls.length := by rw [<- hll]; exact (List.getElem?_eq_some_iff.1 hl).1
 have hd : ls[l].dat = lf.dat := by
  have h5 := congrArg (fun z => z[l]?) e2
  simp only [List.getElem?_map, hl, List.getElem?_eq_getElem hlt, Option.map_some, Option.some.injEq] at h5
  exact h5
 have h5 := h4 l ls[l] u (by rw [Y1]; exact List.getElem?_eq_getElem hlt) hu
 obtain ⟨hset, hsl⟩ := Y3g hfit (List.getElem?_eq_getElem hlt)
 rw [Nat.zero_add] at hsl
 rw [Y2r, if_pos (show l < (cs r).length by rw [<- h2]; exact hlt)]
 generalize ls[l] = lo at *
 obtain ⟨t1, x1, m1⟩ := lo
 obtain ⟨t2, x2, m2⟩ := lf
 simp only [Leaf.dat, Sigma.mk.injEq] at hd
 obtain ⟨rfl, hd⟩ := hd
 have hd : x1 = x2 := eq_of_heq hd
 subst hd
 have hold : ∃ lv, m1 = .at_ lv /\ Rep (RoS c (SS env noP tmps vs w cs bs)) w t1 lv [u] x1 (bs r (l + 1)) := by
  cases m1 with
  | at_ lv => exact ⟨lv, rfl, h5.rep⟩
  | bor _ _ _ => simp [Mode.settled] at hset
  | dead => simp [Mode.settled] at hset
 obtain ⟨lv, rfl, hrep⟩ := hold
 rcases Y1w b.md t x 0 l _ hl with ⟨hf, hm⟩ | ⟨⟨e0, τ, hs⟩, hm⟩
 ·simp only at hf hm
  subst hm
  obtain ⟨q1, q2⟩ := Rep.flat (S' := S) (w' := w) (m' := .ro) hf hrep
  refine ⟨.ro, rfl, ?_⟩
  rw [q1]
  split <;> exact q2
 ·simp only at hs hm
  rw [Nat.zero_add] at hm
  have hS' : ∀ k, RoS c (SS env noP tmps vs w cs bs) k -> k < w.heap.size -> S k := hS
  cases hsx : (slotAt b.lv l).isFx with
  | true =>
   rw [if_pos rfl]
   refine ⟨.ro, ?_, ?_⟩
   ·rw [hm]; unfold BoxSig.md; cases hq : slotAt b.lv l <;> rw [hq] at hsx <;> first | rfl | cases hsx
   ·exact Rep.roS hrep (fun k hk hl => hS' k hk hl) (hfx l hsx)
  | false =>
   rw [if_neg (by simp)]
   have hmm := (hsl e0 τ hs).resolve_left (by rw [hsx]; simp)
   refine ⟨lv, ?_, Rep.move (fun k hk hl => ⟨hS' k hk hl, rfl⟩) (fun _ _ => rfl) hrep⟩
   rw [hm, <- hmm]
end
end Go.FP

namespace Go.FP
open Go.RowKit
section
variable {P : Program} {o : Oper} {a : Act} {w : World} {R : Type} {K : Env -> Option R} {rr : R} {next : Act -> World -> Prop} {Q : Exit -> Act -> World -> Prop} {c : Cx} {d : Nat} {env : Env} {caps : FuncId -> List Ty} {orc : Orc}
theorem Ycx {cl : Call} {f : FuncId} {extra : List AV} {ex : List Value} (hop : o.op = .call cl) (hdst : o.dst = some d) (hr : RE c env a.tmps w) (hd : d < env.length)
  (hrun : Enterable P f -> (execOp a.eval o).run P w = .ok (.enter f (cl.args.map (evT a.tmps) ++ ex.toArray)) w) (hex : ∀ vs cs bs, Rel c (SS env noP a.tmps vs w cs bs) -> ValCs c (SS env noP a.tmps vs w cs bs) extra ex)
  {sg : Sig} {b : BoxSig} (hO : ∀ args q x, orc f args = some q -> q.run = some x -> Enterable P f /\ ∃ t x0 y ys, nthL args b.k = some (.ptr t x0) /\ q.pk x = ⟨t, y⟩ :: ys /\ FnSpecBox P f sg.results b t x0 args y ys)
  (hK : callB caps orc (some d) f sg b cl.args.toList extra env K = some rr) (hn : Next c a K rr env.length next) : o.wp P a w next Q := by
 unfold callB at hK
 simp only at hK
 split at hK
 ·rename_i r t hk1 hk2
  split at hK
  ·rename_i e ls hg
   split at hK
   ·rename_i hc
    obtain ⟨⟨⟨hid, hty⟩, hfit, hsub⟩, ⟨hl1, hl2⟩, hap, hcalm⟩ := hc
    split at hK
    ·simp at hK
    ·rename_i rvs hrv
     split at hK
     ·simp at hK
     ·rename_i q hq
      obtain ⟨z0, hres0, hK⟩ := Option.bind_eq_some_iff.1 hK
      obtain ⟨hent, t0, x0, y, ys, e1, e2, hspec⟩ := hO rvs q z0 hq hres0
      obtain ⟨x, hx1, hx2⟩ := Y93 hrv hk2 hk1
      rw [hx1] at e1
      simp only [Option.some.injEq, RV.ptr.injEq] at e1
      obtain ⟨rfl, e1⟩ := e1
      have e1 : x = x0 := eq_of_heq e1
      subst e1
      rw [e2] at hK
      simp only [dif_pos] at hK
      cases hra : resAV sg.results ys with
      | none => rw [hra] at hK; simp at hK
      | some av =>
       rw [hra] at hK
       simp only at hK
       have has : asm t ls = some (x, []) := by
        unfold ptrOf at hx2
        simp only [hg] at hx2
        split at hx2
        ·rename_i y' hy
         split at hx2
         ·simp only [Option.some.injEq] at hx2
          subst hx2; exact hy
         ·simp at hx2
        ·simp at hx2
       obtain ⟨vs, hlen, cs, bs, hrel, hno⟩ := hr
       obtain ⟨B, htm, hB0, hBh, hll, htail, hleaf0, hlx, hLvs⟩ := Yb8 hlen hrel hg hid hfit has
       generalize hvs : rdArgs env sg.params cl.args.toList ++ extra = avs at *
       have hargl : cl.args.toList.length <= sg.params.length := by rw [<- hl1, hl2]; omega
       have hvals : ValCs c (SS env noP a.tmps vs w cs bs) avs (cl.args.toList.map (evT a.tmps) ++ ex) := by
        rw [<- hvs]
        exact (Y3f hlen hrel hargl).1.append (hex vs cs bs hrel)
       obtain ⟨u, _, hu1, hu2⟩ := Y7w hvals hk1
       obtain ⟨e', ls', B', p1, p2, p3⟩ := hu2
       have hrl : r < env.length := Yv hg
       have p2 : a.tmps.getD r undef = .pointer (some ⟨B', 0, none⟩) := by rw [<- p2]; exact (if_pos (by omega)).symm
       have hBB : B = B' := by rw [htm] at p2; simpa using p2
       subst hBB
       rw [p3] at hu1
       have hapo : ∀ v ∈ dropAt b.k avs, (∀ q ∈ v.refs, q.1 ≠ r) := fun v hv => by
        rcases Y5z (List.all_eq_true.1 hap v hv) with ⟨f, cps, rfl⟩ | h
        ·simp [AV.refs]
        ·exact (Y5y h).1
       let S : Nat -> Prop := fun k => RoS c (SS env noP a.tmps vs w cs bs) k \/ (∃ v ∈ dropAt b.k avs, ∃ q ∈ v.refs, k ∈ bs q.1 (q.2 + 1)) \/ (∃ v ∈ dropAt b.k avs, ∃ q ∈ v.ptrs, q ≠ r /\ ∃ l, k ∈ bs q l) \/ ∃ l, (slotAt b.lv l).isFx = true /\ k ∈ bs r (l + 1)
       have hrvr := Y96 (S := S) hrel (fun k hk => .inl hk) (show (SS env noP a.tmps vs w cs bs).tm r = _ from (if_pos (show r < a.tmps.size by omega)).trans htm) hvals hrv ⟨_, hk1⟩ (fun v hv => List.all_eq_true.1 hap v hv) (fun v hv q hq k hk => .inr (.inl ⟨v, hv, q, hq, hk⟩)) (fun v hv q hq hqr l k hk => .inr (.inr (.inl ⟨v, hv, q, hq, hqr, l, hk⟩)))
       have hLv := hLvs S (fun k hk _ => .inl hk) (fun l hl k hk => .inr (.inr (.inr ⟨l, hl, hk⟩)))
       let F : Nat -> List Nat := fun l => if (slotAt b.lv l).isFx then [] else bs r (l + 1)
       let bds : List (List Nat) := (List.range (cs r).length).map F
       have hF : ∀ l k, k ∈ F l -> (slotAt b.lv l).isFx = false /\ k ∈ bs r (l + 1) := by
        intro l k hk
        simp only [F] at hk
        split at hk
        ·simp at hk
        ·rename_i h; exact ⟨by simpa using h, hk⟩
       have hin : ∀ k ∈ bds.flatten, ∃ l, (slotAt b.lv l).isFx = false /\ k ∈ bs r (l + 1) := fun k hk => by
        obtain ⟨l, _, h⟩ := Y2s.1 hk
        exact ⟨l, hF l k h⟩
       have hBin : B ∈ bs r 0 := by rw [hB0]; simp
       have hO1 : ∀ k ∈ B :: bds.flatten, ∃ l, k ∈ bs r l := fun k hk => by
        rcases List.mem_cons.1 hk with rfl | hk
        ·exact ⟨0, hBin⟩
        ·obtain ⟨l, _, h⟩ := hin k hk; exact ⟨l + 1, h⟩
       have hnd : (B :: bds.flatten).Nodup := by
        refine List.nodup_cons.2 ⟨fun h => ?_, Y3p (fun l => ?_) (fun l l' k h1 h2 => ?_) _⟩
        ·obtain ⟨l, _, h⟩ := hin B h
         have := (hrel.disj _ _ _ _ _ hBin h).2
         omega
        ·simp only [F]; split
         ·exact List.nodup_nil
         ·exact hrel.nodup _ _
        ·have := (hrel.disj _ _ _ _ _ (hF l k h1).2 (hF l' k h2).2).2
         omega
       have hSO : ∀ k, S k -> k ∉ B :: bds.flatten := by
        intro k hk hm
        obtain ⟨l0, hl0⟩ := hO1 k hm
        rcases hk with hk | ⟨v, hv, q, hq, hk⟩ | ⟨v, hv, q, hq, hqr, l, hk⟩ | ⟨l, hl, hk⟩
        ·exact hk.1 _ _ hl0
        ·exact hapo v hv q hq (hrel.disj _ _ _ _ _ hk hl0).1
        ·exact hqr (hrel.disj _ _ _ _ _ hk hl0).1
        ·rcases List.mem_cons.1 hm with rfl | hm
         ·have := (hrel.disj _ _ _ _ _ hk hBin).2; omega
         ·obtain ⟨l1, hf1, h1⟩ := hin k hm
          have := (hrel.disj _ _ _ _ _ hk h1).2
          obtain rfl : l = l1 := by omega
          rw [hl] at hf1; cases hf1
       unfold Oper.wp
       rw [hrun hent]
       show Calls P f _ w _
       have hargs : cl.args.map (evT a.tmps) ++ ex.toArray = (cl.args.toList.map (evT a.tmps) ++ ex).toArray := by
        rw [<- List.append_toArray, <- List.map_toArray, Array.toArray_toList]
       rw [hargs]
       refine Calls.mono (hspec S w _ B (cs r) bds c.base hu1 hBh hLv hnd (fun k hk => by obtain ⟨l, h⟩ := hO1 k hk; exact (hrel.own _ _ _ h).1.1) hrel.base hrvr hSO) ?_
       rintro e0 w' ⟨ch', bds', chs, bsx, rfl, hbel, hsame, hBh', hcl, hfx, hLv', hfxb, hnd', hnew', hresR⟩
       show next (a.put o.dst (resVal sg.results chs)) w'
       rw [hdst]
       obtain ⟨hL1, hL2, hL3⟩ := hLv'
       -- the result, with what it may share
       have hgood : ∃ Sr : Nat -> Prop, ResRel Sr w.heap.size w' (B :: (bds'.flatten ++ bsx)) sg.results ys chs bsx /\ ((∀ k, ¬ Sr k) \/ (∀ k, Sr k -> S k \/ k ∈ B :: bds.flatten) /\ (dropAt b.k avs).all bareAV = true /\ boxFxRo b 0 ls = true) := by
        rcases hcalm with ⟨h1, _⟩ | h2
        ·exact ⟨fun _ => False, Y41 h1 hresR, .inl fun _ h => h⟩
        ·exact ⟨_, hresR, .inr ⟨fun k h => h, h2⟩⟩
       obtain ⟨Sr, hresR', hSr⟩ := hgood
       obtain ⟨k2, ls2, rfl, f1, f2, f3, bdsN, f4, f5, f6⟩ := Y4x (c := c) hresR' hra
       have hmode := Y4d hra
       obtain ⟨hBn, hnd2⟩ := List.nodup_cons.1 hnd'
       obtain ⟨hn1, hn2, hn3⟩ := List.nodup_append.1 hnd2
       obtain ⟨g1, g2⟩ := Y19 hn1
       rw [f5] at hn2
       obtain ⟨g3, g4⟩ := Y19 hn2
       have hly : (leaves t y b.md 0).length = ls.length := by rw [hL1, hcl, <- hll]
       let br : Nat -> List Nat := fun l => match l with
        | 0 => [B]
        | l + 1 => if (slotAt b.lv l).isFx then bs r (l + 1) else bds'.getD l []
       let bn : Nat -> List Nat := fun l => match l with
        | 0 => []
        | l + 1 => bdsN.getD l []
       have hfree : ∀ l k, (slotAt b.lv l).isFx = true -> k ∈ bs r (l + 1) -> k ∉ B :: (bds'.flatten ++ bsx) /\ k ∉ B :: bds.flatten := by
        intro l k hl hk
        have h0 : k ∉ B :: bds.flatten := hSO k (.inr (.inr (.inr ⟨l, hl, hk⟩)))
        refine ⟨fun hm => ?_, h0⟩
        rcases List.mem_cons.1 hm with rfl | hm
        ·exact h0 (by simp)
        ·rcases hnew' k hm with h | h
         ·exact h0 (List.mem_cons_of_mem _ h)
         ·have := (hrel.own _ _ _ hk).2; exact absurd h (by show ¬ w.heap.size <= k; exact Nat.not_le.2 this)
       have hmemN : ∀ l k, k ∈ bdsN.getD l [] -> k ∈ bds'.flatten ++ bsx := fun l k hk => List.mem_append_right _ (by rw [f5]; exact Yn hk)
       have hmemA : ∀ l k, k ∈ bds'.getD l [] -> k ∈ bds'.flatten ++ bsx := fun l k hk => List.mem_append_left _ (Yn hk)
       have hback : ∀ k ∈ bds'.flatten ++ bsx, w.heap.size <= k \/ ∃ l', k ∈ bs r l' := fun k hk => (hnew' k hk).elim (fun h => .inr (let ⟨l, _, h⟩ := hin k h; ⟨l + 1, h⟩)) .inl
       have hsz : w.heap.size <= w'.heap.size := hbel.size
       have hRP := RP.renewR (vs := vs) hlen hrel hno hg hB0 htm hbel (ch' := ch') (br := br) (bn := bn) (ns := mixLs b 0 ls (leaves t y b.md 0)) (k2 := k2) (ls2 := ls2) (rv := resVal sg.results chs) (cells2 := chs.flatten)
        (fun k hk hnk => hsame k hk (fun hm => by obtain ⟨l, h⟩ := hO1 k hm; exact hnk l h)) (by rw [hid]; exact hBh') (fun l hl => hfx l (Y53 hsub hl)) rfl (by rw [Y3o hly.symm, <- hly]; exact hL1) (fun l hl => ?_) (fun l k hk => ?_) (fun l k hk => ?_) (fun l l' k h1 h2 => ?_) (fun l l' k h1 h2 => ?_) (fun l l' k h1 h2 => ?_) (fun l => ?_) (fun l => ?_) (fun lf hlf => ?_) f3 (fun hkeep => ?_)
       ·have hbl : (renewBox r (.box e) (mixLs b 0 ls (leaves t y b.md 0)) env).length = env.length := by unfold renewBox; rw [Y7, Y6]
        rw [<- hbl] at hRP
        have := RE.commit hRP (by rw [hbl]; exact hd)
        rw [Y0] at this
        exact hn _ _ _ hK this (by rw [Y1c, hbl]) rfl
       ·rw [Y3o hly.symm] at hl
        show (if (slotAt b.lv l).isFx then bs r (l + 1) else bds'.getD l []) = []
        split
        ·exact htail l hl
        ·rw [List.getD_eq_getElem?_getD, List.getElem?_eq_none (by rw [hL2, <- hL1, hly]; exact hl)]; rfl
       ·cases l with
        | zero =>
         obtain rfl : k = B := by simpa [br] using hk
         exact ⟨(Array.getElem?_eq_some_iff.1 hBh').1, .inr ⟨0, hBin⟩⟩
        | succ l =>
         have hk : k ∈ (if (slotAt b.lv l).isFx then bs r (l + 1) else bds'.getD l []) := hk
         cases hs : (slotAt b.lv l).isFx with
         | true => rw [if_pos hs] at hk; exact ⟨Nat.lt_of_lt_of_le (hrel.own _ _ _ hk).2 hsz, .inr ⟨l + 1, hk⟩⟩
         | false =>
          rw [if_neg (by rw [hs]; simp)] at hk
          have hlt := Y7i hk
          obtain ⟨m, _, hrep⟩ := hL3 l _ _ hs (List.getElem?_eq_getElem (show l < (leaves t y b.md 0).length by rw [hL1, <- hL2]; exact hlt)) (List.getElem?_eq_getElem (show l < ch'.length by rw [<- hL2]; exact hlt))
          exact ⟨Rep.lt hrep k hk, hback k (hmemA l k hk)⟩
       ·cases l with
        | zero => simp [bn] at hk
        | succ l =>
         have hk : k ∈ bdsN.getD l [] := hk
         have hlt := Y7i hk
         obtain ⟨m, _, hrep⟩ := f6 l _ _ (List.getElem?_eq_getElem (show l < ls2.length by omega)) (List.getElem?_eq_getElem (show l < chs.flatten.length by omega))
         exact ⟨Rep.lt hrep k hk, hback k (hmemN l k hk)⟩
       ·cases l with
        | zero =>
         obtain rfl : k = B := by simpa [br] using h1
         cases l' with
         | zero => rfl
         | succ l' =>
          exfalso
          have h2 : k ∈ (if (slotAt b.lv l').isFx then bs r (l' + 1) else bds'.getD l' []) := h2
          split at h2
          ·have := (hrel.disj _ _ _ _ _ hBin h2).2; omega
          ·exact hBn (hmemA l' k h2)
        | succ l =>
         replace h1 : k ∈ (if (slotAt b.lv l).isFx then bs r (l + 1) else bds'.getD l []) := h1
         cases l' with
         | zero =>
          have hkB : k = B := by simpa [br] using h2
          exfalso
          split at h1
          ·have := (hrel.disj _ _ _ _ _ (hkB ▸ hBin) h1).2; omega
          ·exact hBn (hkB ▸ hmemA l k h1)
         | succ l' =>
          have h2 : k ∈ (if (slotAt b.lv l').isFx then bs r (l' + 1) else bds'.getD l' []) := h2
          split at h1
          ·rename_i s1
           split at h2
           ·exact (hrel.disj _ _ _ _ _ h1 h2).2
           ·exact absurd (List.mem_cons_of_mem _ (hmemA l' k h2)) (hfree l k s1 h1).1
          ·split at h2
           ·rename_i s2
            exact absurd (List.mem_cons_of_mem _ (hmemA l k h1)) (hfree l' k s2 h2).1
           ·rw [g2 l l' k h1 h2]
       ·cases l with
        | zero => simp [bn] at h1
        | succ l => cases l' with
         | zero => simp [bn] at h2
         | succ l' => rw [g4 l l' k h1 h2]
       ·cases l' with
        | zero => simp [bn] at h2
        | succ l' =>
         have h2 : k ∈ bdsN.getD l' [] := h2
         have hkx : k ∈ bsx := by rw [f5]; exact Yn h2
         cases l with
         | zero =>
          obtain rfl : k = B := by simpa [br] using h1
          exact hBn (List.mem_append_right _ hkx)
         | succ l =>
          have h1 : k ∈ (if (slotAt b.lv l).isFx then bs r (l + 1) else bds'.getD l []) := h1
          split at h1
          ·rename_i s1
           exact (hfree l k s1 h1).1 (List.mem_cons_of_mem _ (List.mem_append_right _ hkx))
          ·exact hn3 k (Yn h1) k hkx rfl
       ·cases l with
        | zero => simp [br]
        | succ l =>
         show (if (slotAt b.lv l).isFx then bs r (l + 1) else bds'.getD l []).Nodup
         split
         ·exact hrel.nodup _ _
         ·exact g1 l
       ·cases l with
        | zero => exact List.nodup_nil
        | succ l => exact g3 l
       ·obtain ⟨l, hl⟩ := List.getElem?_of_mem hlf
        have hsettled : lf.m.settled = true := by
         rcases Y6c hl with ⟨_, h⟩ | ⟨_, h⟩
         ·exact (Y3g hfit h).1
         ·rcases Y1w b.md t y 0 l lf h with ⟨_, hm⟩ | ⟨_, hm⟩
          ·rw [hm]; rfl
          ·rw [hm]; unfold BoxSig.md; cases slotAt b.lv (0 + l) <;> rfl
        obtain ⟨t1, x1, m1⟩ := lf
        cases m1 with
        | at_ _ => rfl
        | bor _ _ _ => simp [Mode.settled] at hsettled
        | dead => rfl
       ·-- what may be read behind the call
        have eR : ∀ (s' : St), s'.bs = upd (upd bs r br) env.length bn -> s'.bs r = br := fun s' e => by rw [e, Y3 _ _ (Nat.ne_of_lt hrl), Y0]
        have hown : ∀ p l k, k ∈ (upd (upd bs r br) env.length bn) p l -> k ∈ bs p l \/ k ∈ B :: (bds'.flatten ++ bsx) := by
         intro p l k hk
         by_cases hpN : p = env.length
         ·subst hpN
          rw [Y0] at hk
          cases l with
          | zero => simp [bn] at hk
          | succ l => exact .inr (List.mem_cons_of_mem _ (hmemN l k hk))
         ·rw [Y3 _ _ hpN] at hk
          by_cases hpr : p = r
          ·subst hpr
           rw [Y0] at hk
           cases l with
           | zero => exact .inl (by rw [hB0]; exact hk)
           | succ l =>
            replace hk : k ∈ (if (slotAt b.lv l).isFx then bs p (l + 1) else bds'.getD l []) := hk
            split at hk
            ·exact .inl hk
            ·exact .inr (List.mem_cons_of_mem _ (hmemA l k hk))
          ·rw [Y3 _ _ hpr] at hk
           exact .inl hk
        have hown2 : ∀ l k, k ∈ bs r (l + 1) -> (slotAt b.lv l).isFx = false -> k ∉ B :: (bds'.flatten ++ bsx) -> ∀ p l', k ∉ (upd (upd bs r br) env.length bn) p l' := by
         intro l k hk hs hnk p l' hm
         rcases hown p l' k hm with h | h
         ·obtain ⟨rfl, rfl⟩ := hrel.disj _ _ _ _ _ h hk
          rw [Y3 _ _ (Nat.ne_of_lt hrl), Y0] at hm
          replace hm : k ∈ (if (slotAt b.lv l).isFx then bs p (l + 1) else bds'.getD l []) := hm
          rw [if_neg (by rw [hs]; simp)] at hm
          exact hnk (List.mem_cons_of_mem _ (hmemA l k hm))
         ·exact hnk h
        have hnewk : ∀ k, w.heap.size <= k -> k ∉ B :: (bds'.flatten ++ bsx) -> ∀ p l', k ∉ (upd (upd bs r br) env.length bn) p l' := by
         intro k hk hnk p l' hm
         rcases hown p l' k hm with h | h
         ·exact absurd (hrel.own _ _ _ h).2 (Nat.not_lt.2 hk)
         ·exact hnk h
        have hRo : (dropAt b.k avs).all bareAV = true -> boxFxRo b 0 ls = true -> ∀ k, (S k \/ k ∈ bds.flatten \/ w.heap.size <= k) -> k ∉ B :: (bds'.flatten ++ bsx) -> (∀ p l', k ∉ (upd (upd bs r br) env.length bn) p l') /\ (c.S0 k \/ c.mine k) := by
         intro hb1 hb2 k hk hnk
         have hbare : ∀ v ∈ dropAt b.k avs, v.refs = [] /\ v.ptrs = [] := fun v hv => Ya4 (List.all_eq_true.1 hb1 v hv)
         rcases hk with hk | hk | hk
         ·rcases hk with hk | ⟨v, hv, q, hq, _⟩ | ⟨v, hv, q, hq, _⟩ | ⟨l, hl, hk⟩
          ·exact ⟨fun p l' hm => (hown p l' k hm).elim (hk.1 p l') hnk, hk.2⟩
          ·rw [(hbare v hv).1] at hq; simp at hq
          ·rw [(hbare v hv).2] at hq; simp at hq
          ·exfalso
           by_cases hlt : l < ls.length
           ·have hno := Y6y (n := 0) (l := l) hb2 (List.getElem?_eq_getElem hlt) (by rw [Nat.zero_add]; exact hl)
            have := (hleaf0 l _ _ (List.getElem?_eq_getElem hlt) (List.getElem?_eq_getElem (show l < (cs r).length by omega))).held hno
            have h0 : bs r (l + 1) = [] := this.1
            rw [h0] at hk; simp at hk
           ·rw [htail l (by omega)] at hk; simp at hk
         ·obtain ⟨l, hs, h⟩ := hin k hk
          exact ⟨hown2 l k h hs hnk, .inr (hrel.own _ _ _ h).1⟩
         ·exact ⟨hnewk k hk hnk, .inr (hrel.mine_new hk)⟩
        refine ⟨fun l lf u hl hu => ?_, ?_⟩
        ·have ebr : (upd (upd bs r br) env.length bn) r (l + 1) = if (slotAt b.lv l).isFx then bs r (l + 1) else bds'.getD l [] := by rw [Y3 _ _ (Nat.ne_of_lt hrl), Y0]
         rcases Y6c hl with ⟨s1, h1⟩ | ⟨s1, h1⟩
         ·rw [Nat.zero_add] at s1
          have h5 := hleaf0 l lf u h1 (by rw [<- hfx l s1]; exact hu)
          have hset := (Y3g hfit h1).1
          have hch : lf.chg noG = lf := by
           obtain ⟨t1, x1, m1⟩ := lf
           cases m1 <;> rfl
          have hrefs : lf.refs = [] := by
           obtain ⟨t1, x1, m1⟩ := lf
           cases m1 with
           | at_ _ => rfl
           | bor _ _ _ => simp [Mode.settled] at hset
           | dead => rfl
          have h6 := LeafRel.chg (g := noG) (L := fun _ _ => False) (r' := r) hkeep (fun _ _ _ _ _ _ h => h.elim) (fun q hq => by rw [hrefs] at hq; simp at hq) (by show (upd (upd bs r br) env.length bn) r (l + 1) = _; rw [ebr, if_pos s1]) (fun k hk => hsame k (hrel.own _ _ _ hk).2 (hfree l k s1 hk).2) h5
          rw [hch] at h6
          exact h6
         ·rw [Nat.zero_add] at s1
          obtain ⟨m, hm, hrep⟩ := hL3 l lf u s1 h1 hu
          have hmd := Y1w b.md t y 0 l lf h1
          rw [Nat.zero_add] at hmd
          have hlt : l < ls.length := by rw [<- hly]; exact (List.getElem?_eq_some_iff.1 h1).1
          have htt : ls[l].t = lf.t := by
           have q1 : ls.map Leaf.t = flat t := by simpa [typedAs] using hty
           have q2 := Yu t y b.md 0
           have q3 := congrArg (fun z => z[l]?) (q1.trans q2.symm)
           simp only [List.getElem?_map, h1, List.getElem?_eq_getElem hlt, Option.map_some, Option.some.injEq] at q3
           exact q3
          obtain ⟨t1, x1, m1⟩ := lf
          simp only at hm hrep hmd htt
          subst hm
          refine LeafRel.of_rep ?_ ?_
          ·rcases hmd with ⟨_, h⟩ | ⟨_, h⟩
           ·obtain rfl : m = .ro := by simpa using h
            trivial
           ·unfold BoxSig.md at h
            cases hq : slotAt b.lv l <;> rw [hq] at h <;> (simp only [Slot.mode, Mode.at_.injEq] at h; subst h; trivial)
          ·show Rep _ w' t1 m [u] x1 ((upd (upd bs r br) env.length bn) r (l + 1))
           rw [ebr, if_neg (by rw [s1]; simp)]
           rcases hcalm with ⟨_, hcm⟩ | ⟨hb1, hb2⟩
           ·rcases hmd with ⟨hf, _⟩ | ⟨⟨e0, τ, hs⟩, h⟩
            ·obtain ⟨q1, q2⟩ := Rep.flat (w' := w') (m' := m) hf hrep
             rw [q1]; exact q2
            ·have := Y6x hcm (List.getElem?_eq_getElem hlt) e0 τ (htt.trans hs)
             rw [Nat.zero_add] at this
             have hdp : slotAt b.lv l = .dp := this.resolve_left (fun e => by rw [e] at s1; cases s1)
             unfold BoxSig.md at h
             rw [hdp] at h
             obtain rfl : m = .dp := by simpa [Slot.mode] using h
             exact Rep.dpS hrep
           ·exact Rep.move (fun k hk _ => ⟨hRo hb1 hb2 k hk.1 hk.2, rfl⟩) (fun _ _ => rfl) hrep
        ·refine ⟨?_, ?_, fun l hl => ?_, fun l lf u hl hu => ?_⟩
         ·show KCells c w' ((upd (upd bs r br) env.length bn) env.length 0) k2 _ ((upd (upd cs r ch') env.length chs.flatten) env.length)
          rw [Y0, Y0]
          exact f1.bare rfl
         ·show ls2.length = ((upd (upd cs r ch') env.length chs.flatten) env.length).length
          rw [Y0]; exact f2
         ·show (upd (upd bs r br) env.length bn) env.length (l + 1) = []
          rw [Y0]
          show bdsN.getD l [] = []
          rw [List.getD_eq_getElem?_getD, List.getElem?_eq_none (by omega)]; rfl
         ·replace hu : chs.flatten[l]? = some u := by
           have : ((upd (upd cs r ch') env.length chs.flatten) env.length)[l]? = some u := hu
           rwa [Y0] at this
          rw [Y1] at hl
          obtain ⟨m, hm, hrep⟩ := f6 l lf u hl hu
          have hmd := hmode lf (List.mem_of_getElem? hl)
          obtain ⟨t1, x1, m1⟩ := lf
          simp only at hm hrep
          subst hm
          refine LeafRel.of_rep (by cases m <;> first | trivial | exact absurd rfl (hmd _)) ?_
          show Rep _ w' t1 m [u] x1 ((upd (upd bs r br) env.length bn) env.length (l + 1))
          rw [Y0]
          show Rep _ w' t1 m [u] x1 (bdsN.getD l [])
          refine Rep.move (fun k hk _ => ⟨?_, rfl⟩) (fun _ _ => rfl) hrep
          obtain ⟨hk1, hk2⟩ := hk
          rcases hSr with hSr | ⟨hSr, hb1, hb2⟩
          ·have hk1 := hk1.resolve_left (hSr k)
           exact ⟨hnewk k hk1 hk2, .inr (hrel.mine_new hk1)⟩
          ·exact hRo hb1 hb2 k (hk1.elim (fun h => (hSr k h).imp id (fun h => .inl ((List.mem_cons.1 h).resolve_left (fun e => hk2 (by rw [e]; simp))))) (fun h => .inr (.inr h))) hk2
   ·simp at hK
  ·simp at hK
 ·simp at hK
end
end Go.FP

namespace Go.FP
open Go.RowKit
section
variable {P : Program} {o : Oper} {a : Act} {w : World} {R : Type} {K : Env -> Option R} {r : R} {next : Act -> World -> Prop} {Q : Exit -> Act -> World -> Prop} {c : Cx} {d : Nat} {T : Tab} {env : Env} {sig : FuncId -> Option Sig} {caps : FuncId -> List Ty} {orc : Orc}
theorem Y4h (hO : OrcOk P sig orc) {cl : Call} {f : FuncId} {extra : List AV} {ex : List Value} (hop : o.op = .call cl) (hdst : o.dst = some d) (hr : RE c env a.tmps w) (hd : d < env.length)
  (hrun : Enterable P f -> (execOp a.eval o).run P w = .ok (.enter f (cl.args.map (evT a.tmps) ++ ex.toArray)) w) (hex : ∀ vs cs bs, Rel c (SS env noP a.tmps vs w cs bs) -> ValCs c (SS env noP a.tmps vs w cs bs) extra ex) (hexr : ∀ v ∈ extra, (∀ q ∈ v.refs, q.1 < env.length))
  (hK : call1 sig caps orc (some d) f cl.args.toList extra env K = some r) (hn : Next c a K r env.length next) : o.wp P a w next Q := by
 unfold call1 at hK
 split at hK
 ·simp at hK
 ·rename_i sg hsg
  split at hK
  ·rename_i b hb
   exact Ycx hop hdst hr hd hrun hex (fun args q x h1 h2 => by
    have := hO f sg args q x hsg h1 h2
    rw [hb] at this
    exact this) hK hn
  rename_i hbx
  split at hK
  ·rename_i id hnb
   exact Yco hop hdst hr hd hrun hex hexr (fun args q x h1 h2 => by
    have := hO f sg args q x hsg h1 h2
    rw [hbx, hnb] at this
    exact this) hK hn
  rename_i hnb
  have hbx := And.intro hbx hnb
  split at hK
  ·rename_i hm
   split at hK
   ·rename_i how
    exact Ycp hO hop hdst hr hd hrun hex hsg hbx hm how hK hn
   ·rename_i how
    simp only at hK
    split at hK
    ·rename_i hc
     split at hK
     ·simp at hK
     ·rename_i rvs hrv
      split at hK
      ·simp at hK
      rename_i q hq
      exact Ydf hO hop hdst hr hd hrun hex hexr hsg hbx hm (by simpa using how) hc.1 hc.2.1 hc.2.2 hrv hq hK hn
    ·simp at hK
  ·rename_i hm
   split at hK
   ·rename_i how
    exact Ycv hO hop hdst hr hd hrun hex hsg hbx hm how hK hn
   ·rename_i how
    exact Ycu hO hop hdst hr hd hrun hex hsg hbx hm (by simpa using how) hK hn
theorem Ya5 (hT : TabOk P T) (hO : OrcOk P sig orc) (hdst : o.dst = some d) (hr : RE c env a.tmps w) (hd : d < env.length) (hK : evVal T sig caps orc d o env K = some r) (hn : Next c a K r env.length next) : o.wp P a w next Q := by
 cases hop : o.op with
 | move x =>
  simp only [evVal, hop] at hK
  exact Ydb hop hdst hr hd hK hn
 | assign x =>
  simp only [evVal, hop] at hK
  split at hK
  ·exact Yas hop hdst hr hd hK hn
  split at hK
  ·rename_i env' v ht
   exact Ybw hop hdst hr hd ht hK hn
  ·simp at hK
 | pick cc x y =>
  simp only [evVal, hop] at hK
  split at hK
  ·rename_i t hb
   exact Ydc hop hdst hr hd hb hK hn
  ·simp at hK
 | alloc e =>
  simp only [evVal, hop] at hK
  split at hK
  ·rename_i τ he
   exact Ycn hT hop hdst hr hd he hK hn
  ·split at hK
   ·rename_i he
    exact Ya1 hT hop hdst hr hd he hK hn
   ·simp at hK
 | box e x =>
  simp only [evVal, hop] at hK
  split at hK
  ·rename_i τ he
   split at hK
   ·rename_i env' ls ht
    exact Ydp hT hop hdst hr hd he ht hK hn
   ·simp at hK
  ·simp at hK
 | build t parts =>
  simp only [evVal, hop] at hK
  split at hK
  ·rename_i τ he
   split at hK
   ·rename_i ha
    split at hK
    ·rename_i env' ls hb
     exact Ycq hT hop hdst hr hd he ha hb hK hn
    ·simp at hK
   ·simp at hK
  ·simp at hK
 | buildSlice t n parts =>
  simp only [evVal, hop] at hK
  split at hK
  ·rename_i te he
   split at hK
   ·rename_i hc
    split at hK
    ·rename_i env' xs dp hb
     exact Y8a hT hop hdst hr hd he hc.1 hc.2.1 hc.2.2 hb hK hn
    ·simp at hK
   ·simp at hK
  ·simp at hK
 | load t x =>
  simp only [evVal, hop] at hK
  split at hK
  ·rename_i τ he
   split at hK
   ·rename_i q off hx
    split at hK
    ·rename_i e ls hb
     split at hK
     ·rename_i hty
      exact Y8p hT hop hdst hr hd he hx hb hty hK hn
     ·simp at hK
    ·simp at hK
   ·rename_i ls wr hx
    split at hK
    ·rename_i hty
     exact Y8q hT hop hdst hr hd he hx hty hK hn
    ·simp at hK
   ·simp at hK
  ·split at hK
   ·rename_i he
    split at hK
    ·rename_i f cs hx
     exact Yaz hT hop hdst hr hd he hx hK hn
    ·simp at hK
   ·simp at hK
 | fieldAddr s x f =>
  simp only [evVal, hop] at hK
  split at hK
  ·rename_i off τ hf
   split at hK
   ·rename_i q o' hx
    exact Y5r hT hop hdst hr hd hf hx hK hn
   ·rename_i ls wr hx
    cases wr with
    | none => exact Y3c hT hop hdst hr hd hf hx hK hn
    | some z => obtain ⟨_, _, _, _, _⟩ := z; exact Y3c hT hop hdst hr hd hf hx hK hn
   ·simp at hK
  ·simp at hK
 | field s x f =>
  simp only [evVal, hop] at hK
  split at hK
  ·rename_i off τ hf
   split at hK
   ·rename_i ls hx
    split at hK
    ·rename_i hty
     exact Ycm hT hop hdst hr hd hf hx hty hK hn
    ·simp at hK
   ·simp at hK
  ·simp at hK
 | indexAddr t x i =>
  simp only [evVal, hop] at hK
  split at hK
  ·rename_i te he
   split at hK
   ·rename_i lx n hx hi
    split at hK
    ·rename_i xs hxs
     split at hK
     ·simp at hK
     ·rename_i hl
      obtain ⟨h0, hK⟩ := Y1h hK
      simp only [Bool.and_eq_true, decide_eq_true_eq] at h0
      exact Y8o hT hop hdst hr hd he hx hi hxs (by simpa using hl) h0.1 h0.2 hK hn
    ·simp at hK
   ·simp at hK
  ·simp at hK
 | index t x i =>
  simp only [evVal, hop] at hK
  split at hK
  ·rename_i s k n ht hs hi
   exact Yck hT hop hdst hr hd ht hs hi hK hn
  ·simp at hK
 | extract x i =>
  simp only [evVal, hop] at hK
  split at hK
  ·rename_i s hx
   split at hK
   ·rename_i sh ls hs
    split at hK
    ·rename_i off agg n ho
     split at hK
     ·rename_i hlive
      split at hK
      ·split at hK
       ·rename_i hbare
        exact Y7h hop hdst hr hd hs ho hlive hbare hK hn
       ·simp at hK
      ·rename_i hno
       exact Y89 hop hdst hr hd hs ho (by simpa using hno) hK hn
     ·simp at hK
    ·simp at hK
   ·simp at hK
  ·simp at hK
 | binOp op t x y t' =>
  simp only [evVal, hop] at hK
  exact Ycj hT hop hdst hr hd hK hn
 | unOp op t x =>
  simp only [evVal, hop] at hK
  exact Ydd hop hdst hr hd hK hn
 | convert s dt x =>
  simp only [evVal, hop] at hK
  split at hK
  ·rename_i k k' k2 n hs ht hi
   exact Yau hT hop hdst hr hd hs ht hi hK hn
  ·split at hK
   ·rename_i b hb
    exact Ycw hT hop hdst hr hd hb hK hn
   ·simp at hK
 | slice t x lo hi mx =>
  simp only [evVal, hop] at hK
  split at hK
  ·simp at hK
  ·split at hK
   ·rename_i lo' hi' hlo hhi
    split at hK
    ·rename_i s hs
     split at hK
     ·rename_i ht
      obtain ⟨h0, hK⟩ := Y1h hK
      simp only [Bool.and_eq_true, decide_eq_true_eq] at h0
      exact Y8y hT hop hdst hr hd ht hs hlo hhi h0.1 h0.2.1 h0.2.2 hK hn
     ·simp at hK
    ·split at hK
     ·rename_i te he
      split at hK
      ·rename_i lx hx
       split at hK
       ·rename_i xs hxs
        split at hK
        ·simp at hK
        ·rename_i hl
         obtain ⟨h0, hK⟩ := Y1h hK
         simp only [Bool.and_eq_true, decide_eq_true_eq] at h0
         exact Ycs hT hop hdst hr hd he hx hxs (by simpa using hl) hlo hhi h0.1 h0.2.1 h0.2.2 hK hn
       ·simp at hK
      ·simp at hK
     ·simp at hK
   ·simp at hK
 | makeSlice t l cc =>
  simp only [evVal, hop] at hK
  split at hK
  ·rename_i te n m he hl hc
   obtain ⟨h0, hK⟩ := Y1h hK
   simp only [Bool.and_eq_true, decide_eq_true_eq] at h0
   exact Y8x hT hop hdst hr hd he hl hc h0.1 h0.2.1 h0.2.2 hK hn
  ·simp at hK
 | makeFunc fn first captured =>
  cases fn with
  | func f =>
   simp only [evVal, hop] at hK
   split at hK
   ·rename_i hf
    split at hK
    ·rename_i cs hc
     exact Y9z hop hdst hr hd hf hc hK hn
    ·simp at hK
   ·simp at hK
  | _ => simp [evVal, hop] at hK
 | nilCheck x =>
  simp only [evVal, hop] at hK
  split at hK
  ·rename_i q off hx
   exact Y67 hop hdst hr hd hx hK hn
  ·rename_i f cs hx
   exact Y6m hop hdst hr hd hx hK hn
  ·rename_i f xs hx
   exact Y68 hop hdst hr hd hx hK hn
  ·rename_i f cs hx
   exact Y6b hop hdst hr hd hx hK hn
  ·rename_i ls wr hx
   exact Y69 hop hdst hr hd hx hK hn
  ·simp at hK
 | call cl =>
  simp only [evVal, hop] at hK
  split at hK
  ·rename_i f hc
   refine Y4h hO (extra := []) (ex := []) hop hdst hr hd (fun he => ?_) (fun _ _ _ _ => rfl) (by simp) hK hn
   simp [execOp, hop, resolve, hc, Deferred.ofValue, invoke, Y5, evT, Y2b he]
  ·rename_i t hc
   split at hK
   ·rename_i f cs ht
    have htl : t < env.length := by
     apply Decidable.byContradiction
     intro h
     rw [Y1t env t (Nat.le_of_not_lt h)] at ht
     cases ht
    have hval : ∀ vs cs' bs, Rel c (SS env noP a.tmps vs w cs' bs) -> ∃ us, evT a.tmps (.tmp t) = .func (.func f) #[] us.toArray /\ PtrRels (SS env noP a.tmps vs w cs' bs) cs us := by
     intro vs cs' bs hrel
     have hav := hrel.av t
     have e1 : (SS env noP a.tmps vs w cs' bs).env t = .clo f cs := by show ovl env noP t = _; rw [Y8 htl]; exact ht
     have e2 : (SS env noP a.tmps vs w cs' bs).tm t = evT a.tmps (.tmp t) := if_pos (hr.choose_spec.len ▸ htl)
     rw [e1, e2] at hav
     exact hav.2
    obtain ⟨vs, hlen, cs', bs, hrel, hno⟩ := id hr
    obtain ⟨us, e1, e2⟩ := hval vs cs' bs hrel
    refine Y4h hO (ex := us) hop hdst hr hd (fun he => ?_) (fun vs2 cs2 bs2 hrel2 => ?_) (fun v hv => ?_) hK hn
    ·simp [execOp, hop, resolve, hc, Y5, e1, Deferred.ofValue, invoke, Y2b he]
    ·obtain ⟨us', f1, f2⟩ := hval vs2 cs2 bs2 hrel2
     rw [e1] at f1
     have : us = us' := by simpa using f1
     subst this
     have go : ∀ {cs : List (Nat × Nat)} {us : List Value}, PtrRels (SS env noP a.tmps vs2 w cs2 bs2) cs us -> ValCs c (SS env noP a.tmps vs2 w cs2 bs2) (cs.map fun c => AV.path c.1 c.2) us := by
      intro cs
      induction cs with
      | nil => intro us h; exact h
      | cons p cs ih =>
       intro us h
       obtain ⟨v, vs', h1, h2, h3⟩ := h
       exact ⟨v, vs', h1, ⟨[], h2⟩, ih h3⟩
     exact go f2
    ·simp only [List.mem_map] at hv
     obtain ⟨p, _, rfl⟩ := hv
     simp [AV.refs]
   ·rename_i f xs ht
    have htl : t < env.length := by
     apply Decidable.byContradiction
     intro h
     rw [Y1t env t (Nat.le_of_not_lt h)] at ht
     cases ht
    have hval : ∀ vs cs' bs, Rel c (SS env noP a.tmps vs w cs' bs) -> ∃ us, evT a.tmps (.tmp t) = .func (.func f) #[] us.toArray /\ PtrVs (RoS c (SS env noP a.tmps vs w cs' bs)) w xs us := by
     intro vs cs' bs hrel
     have hav := hrel.av t
     have e1 : (SS env noP a.tmps vs w cs' bs).env t = .cloR f xs := by show ovl env noP t = _; rw [Y8 htl]; exact ht
     have e2 : (SS env noP a.tmps vs w cs' bs).tm t = evT a.tmps (.tmp t) := if_pos (hr.choose_spec.len ▸ htl)
     rw [e1, e2] at hav
     exact hav.2
    obtain ⟨vs, hlen, cs', bs, hrel, hno⟩ := id hr
    obtain ⟨us, e1, e2⟩ := hval vs cs' bs hrel
    refine Y4h hO (ex := us) hop hdst hr hd (fun he => ?_) (fun vs2 cs2 bs2 hrel2 => ?_) (fun v hv => ?_) hK hn
    ·simp [execOp, hop, resolve, hc, Y5, e1, Deferred.ofValue, invoke, Y2b he]
    ·obtain ⟨us', f1, f2⟩ := hval vs2 cs2 bs2 hrel2
     rw [e1] at f1
     have : us = us' := by simpa using f1
     subst this
     exact Y4e f2
    ·simp only [List.mem_map] at hv
     obtain ⟨p, _, rfl⟩ := hv
     rw [Y6p]
     simp
   ·rename_i f caps0 ht
    have htl : t < env.length := by
     apply Decidable.byContradiction
     intro h
     rw [Y1t env t (Nat.le_of_not_lt h)] at ht
     cases ht
    have hval : ∀ vs cs' bs, Rel c (SS env noP a.tmps vs w cs' bs) -> ∃ v0 us, evT a.tmps (.tmp t) = .func (.func f) #[] us.toArray /\ SelfAt c (SS env noP a.tmps vs w cs' bs) f caps0 v0 us := by
     intro vs cs' bs hrel
     have hav := hrel.av t
     have e1 : (SS env noP a.tmps vs w cs' bs).env t = .cloS f caps0 := by show ovl env noP t = _; rw [Y8 htl]; exact ht
     have e2 : (SS env noP a.tmps vs w cs' bs).tm t = evT a.tmps (.tmp t) := if_pos (hr.choose_spec.len ▸ htl)
     rw [e1, e2] at hav
     exact hav.2
    obtain ⟨vs, hlen, cs', bs, hrel, hno⟩ := id hr
    obtain ⟨v0, us, e1, e2⟩ := hval vs cs' bs hrel
    refine Y4h hO (ex := us) hop hdst hr hd (fun he => ?_) (fun vs2 cs2 bs2 hrel2 => ?_) (fun v hv => ?_) hK hn
    ·simp [execOp, hop, resolve, hc, Y5, e1, Deferred.ofValue, invoke, Y2b he]
    ·obtain ⟨v0', us', f1, f2⟩ := hval vs2 cs2 bs2 hrel2
     rw [e1] at f1
     have : us = us' := by simpa using f1
     subst this
     exact Yb0 f2
    ·simp only [List.mem_map] at hv
     obtain ⟨p, _, rfl⟩ := hv
     rw [Yb1]
     simp
   ·simp at hK
  ·rename_i hc
   split at hK
   ·rename_i x t hargs htys
    split at hK
    ·rename_i s hs
     split at hK
     ·rename_i ht
      exact Yav hT hop hc hargs htys hdst hr hd hs ht hK hn
     ·simp at hK
    ·split at hK
     ·rename_i e τ ht
      split at hK
      ·rename_i lx hx
       split at hK
       ·rename_i xs hxs
        split at hK
        ·rename_i hl
         exact Y8l hT hop hc hargs htys hdst hr hd ht hx hxs hl hK hn
        ·simp at hK
       ·simp at hK
      ·simp at hK
     ·simp at hK
   ·simp at hK
  ·rename_i hc
   split at hK
   ·rename_i s x t t' hargs htys
    split at hK
    ·rename_i htt
     subst htt
     split at hK
     ·rename_i r1 j1 i1 o1 hnest
      split at hK
      ·rename_i te hte
       exact Yb4 hT hop hc hargs htys hdst hr hd hte hnest hK hn
      ·simp at hK
     ·exact Yc0 hT hop hc hargs htys hdst hr hd hK hn
    ·simp at hK
   ·simp at hK
  ·rename_i hc
   split at hK
   ·rename_i x y hargs
    split at hK
    ·rename_i k n k' m hx hy
     split at hK
     ·rename_i hkk
      subst hkk
      exact Y7q (t := 0) (mx := true) hop hc hargs hdst hr hd hx hy hK hn
     ·simp at hK
    ·simp at hK
   ·simp at hK
  ·rename_i hc
   split at hK
   ·rename_i x y hargs
    split at hK
    ·rename_i k n k' m hx hy
     split at hK
     ·rename_i hkk
      subst hkk
      exact Y7q (t := 0) (mx := false) hop hc hargs hdst hr hd hx hy hK hn
     ·simp at hK
    ·simp at hK
   ·simp at hK
  ·simp at hK
 | _ => simp [evVal, hop] at hK
end
end Go.FP

namespace Go.FP
open Go.RowKit
section
variable {P : Program} {R : Type} {r : R} {c : Cx} {T : Tab} {sig : FuncId -> Option Sig} {caps : FuncId -> List Ty} {orc : Orc}
theorem Y2t : ∀ {env : Env} {d : Nat} {v : AV}, get env d = v -> put env d v = env
 | [], d, v, h => by cases d <;> rfl
 | u :: env, 0, v, h => by
  have h : u = v := h
  rw [<- h]; rfl
 | u :: env, d + 1, v, h => by
  have := Y2t (env := env) (d := d) (v := v) h
  show u :: put env d v = _
  rw [this]
theorem RE.len {env : Env} {tmps : Array Value} {w : World} (h : RE c env tmps w) : env.length = tmps.size := h.choose_spec.len
theorem RE.skip {env : Env} {a : Act} {w : World} {o : Oper} {d : Nat} (hr : RE c env a.tmps w) (hdst : o.dst = some d) (hd : d < env.length) : RE c (setD (some d) env .skip) (a.put o.dst undef).tmps w := by
 obtain ⟨vs, h⟩ := hr
 have h1 := h.addVal (n := env.length) (Nat.le_refl _) rfl (av := .skip) (v := undef) (fun cs bs _ => ⟨[], rfl⟩) ⟨by simp [AV.refs], by simp [AV.ptrs]⟩
 have := RE.commit h1 hd
 rw [Y0] at this
 rw [hdst]
 exact this
theorem Ycy (tmps : Array Value) (d : Nat) (v : Value) (h : tmps.getD d undef = v) (hd : d < tmps.size) : tmps.setIfInBounds d v = tmps := by
 apply Array.ext_getElem?
 intro i
 rw [Array.getElem?_setIfInBounds]
 split
 ·rename_i hi
  subst hi
  rw [<- h]
  simp [hd]
 ·rfl
theorem Yb9 (hT : TabOk P T) (hO : OrcOk P sig orc) {o : Oper} {a : Act} {w : World} {env : Env} {K : Env -> Option R} {next : Act -> World -> Prop} {Q : Exit -> Act -> World -> Prop} (hr : RE c env a.tmps w) (hK : evOp T sig caps orc o env K = some r) (hn : Next c a K r env.length next) : o.wp P a w next Q := by
 unfold evOp at hK
 split at hK
 ·rename_i d hdst
  split at hK
  ·rename_i hd
   exact Ya5 hT hO hdst hr hd hK hn
  ·simp at hK
 ·rename_i hdst
  split at hK
  ·rename_i t x v hop
   unfold store1 at hK
   split at hK
   ·rename_i hfn
    exact Yb2 hT hop hdst hr hfn hK hn
   split at hK
   ·rename_i s1 r1 j1 i1 o1 l1 hg
    split at hK
    ·rename_i ht
     exact Y91 hT hop hdst hr hg ht hK hn
    ·simp at hK
   unfold storePlain at hK
   split at hK
   ·simp at hK
   ·rename_i τ ht
    split at hK
    ·simp at hK
    ·rename_i env1 ls hta
     split at hK
     ·rename_i q off hx
      split at hK
      ·rename_i e0 old hold
       split at hK
       ·simp only at hK
        split at hK
        ·rename_i e old2 h2
         split at hK
         ·rename_i hc
          exact Y8b hT hop hdst hr ht hta hx h2 hc.1.1 hc.1.2 hc.2 hK hn
         ·simp at hK
        ·simp at hK
       ·simp at hK
      ·simp at hK
     ·rename_i le q j i oo hx
      split at hK
      ·rename_i e te xs lv hl
       split at hK
       ·rename_i hc
        obtain ⟨hlv, hlm⟩ := hc
        obtain ⟨h0, hK⟩ := Y1h hK
        simp only [Bool.and_eq_true, decide_eq_true_eq] at h0
        split at hK
        ·rename_i y hu
         exact Y8c hT hlv hop hdst hr ht hta hx hl hlm h0.1 h0.2 hu hK hn
        ·simp at hK
       ·simp at hK
      ·simp at hK
     ·simp at hK
  ·simp at hK
theorem Y1q (hT : TabOk P T) (hO : OrcOk P sig orc) {ops : Array Oper} {Q : Exit -> Act -> World -> Prop} {N : Nat} {D : List Deferred} {K : Env -> Option R} (hQ : ∀ env' a' w', K env' = some r -> RE c env' a'.tmps w' -> env'.length = N -> a'.defers = D -> Q .normal a' w') :
  ∀ (l : List Nat) {env : Env} {a : Act} {w : World}, RE c env a.tmps w -> env.length = N -> a.defers = D -> evOps T sig caps orc ops (l.filterMap (ops[·]?)) env K = some r -> wpOps P ops Q l a w
 | [], env, a, w, hr, hN, hD, hK => hQ env a w hK hr hN hD
 | i :: l, env, a, w, hr, hN, hD, hK => by
  unfold wpOps
  cases hi : ops[i]? with
  | none =>
   simp only
   rw [List.filterMap_cons_none (by exact hi)] at hK
   exact Y1q hT hO hQ l hr hN hD hK
  | some o =>
   simp only
   rw [List.filterMap_cons_some (by exact hi)] at hK
   have run : ∀ {env1 : Env}, RE c env1 a.tmps w -> env1.length = N -> evOp T sig caps orc o env1 (fun env' => evOps T sig caps orc ops (l.filterMap (ops[·]?)) env' K) = some r -> o.wp P a w (wpOps P ops Q l) Q := by
    intro env1 hr1 hN1 hK1
    refine Yb9 hT hO hr1 hK1 (fun env' a' w' hK' hr' hl' hd' => ?_)
    exact Y1q hT hO hQ l hr' (by omega) (hd'.trans hD) hK'
   have skip : ∀ {env1 : Env}, RE c env1 a.tmps w -> env1.length = N -> skipOp o env1 (fun env' => evOps T sig caps orc ops (l.filterMap (ops[·]?)) env' K) = some r -> wpOps P ops Q l (a.put o.dst undef) w := by
    intro env1 hr1 hN1 hK1
    unfold skipOp at hK1
    split at hK1
    ·rename_i d hdst
     split at hK1
     ·rename_i hd
      refine Y1q hT hO hQ l (hr1.skip hdst hd) (by rw [Y1c]; exact hN1) ?_ hK1
      rw [hdst]
      exact hD
     ·simp at hK1
    ·rename_i hdst
     rw [hdst]
     exact Y1q hT hO hQ l hr1 hN1 hD hK1
   unfold evOps at hK
   cases hg : o.guard with
   | none =>
    rw [hg] at hK
    simp only at hK
    have hw : Region.wanted o (yielded ops a.tmps) = true := by simp [Region.wanted, hg]
    rw [if_pos hw]
    exact .inl (run hr hN hK)
   | some g =>
    obtain ⟨j, want⟩ := g
    rw [hg] at hK
    simp only at hK
    cases hj : (ops[j]?).bind (·.dst) with
    | none => rw [hj] at hK; simp at hK
    | some d =>
     rw [hj] at hK
     simp only at hK
     have hlen := hr.len
     have hdl : ∀ v, get env d = v -> v ≠ .undef -> d < env.length := fun v hv hne => by
      apply Decidable.byContradiction
      intro h
      rw [Y1t env d (Nat.le_of_not_lt h)] at hv
      exact hne hv.symm
     have hyield : d < env.length -> yielded ops a.tmps j = match a.tmps.getD d undef with | .bool b => some b | _ => none := fun hd => by
      unfold yielded
      rw [hj]
      simp only [Option.bind_some]
      have hd2 : d < a.tmps.size := hlen ▸ hd
      rw [Array.getD_eq_getD_getElem?, Array.getElem?_eq_getElem hd2, Option.getD_some]
      generalize a.tmps[d] = v
      cases v <;> rfl
     split at hK
     ·rename_i hskip
      have hd := hdl _ hskip (by simp)
      have hv : a.tmps.getD d undef = undef := by
       obtain ⟨vs, hl, cs, bs, hrel, _⟩ := id hr
       have hav := hrel.av d
       have e1 : ovl env noP d = .skip := by rw [Y8 hd]; exact hskip
       have e2 : ovlT a.tmps vs d = a.tmps.getD d undef := if_pos (hlen ▸ hd)
       simp only [e1, e2] at hav
       exact hav.1
      have hw : Region.wanted o (yielded ops a.tmps) = false := by
       simp only [Region.wanted, hg, hyield hd, hv]
       rfl
      rw [if_neg (by rw [hw]; simp)]
      exact skip hr hN hK
     ·rename_i b hget
      ·have hb : bool1 (rd none env (.tmp d)) = some b := by
        simp only [rd, hget, borrowFrom, Mode.own]
        rfl
       have hvb := hr.bool1 hb
       have hd : d < env.length := Yv hget
       have hv : a.tmps.getD d undef = .bool b := hvb
       have hps : put env d (vBool b) = env := Y2t hget
       have hw : Region.wanted o (yielded ops a.tmps) = (b == want) := by
        simp only [Region.wanted, hg, hyield hd, hv]
        cases b <;> cases want <;> rfl
       rw [hw]
       cases b with
       | true =>
        simp only [cond_true] at hK
        rw [hps] at hK
        cases want with
        | true => rw [if_pos (by decide)] at hK; rw [if_pos (by decide)]; exact .inl (run hr hN hK)
        | false => rw [if_neg (by decide)] at hK; rw [if_neg (by decide)]; exact skip hr hN hK
       | false =>
        simp only [cond_false] at hK
        rw [hps] at hK
        cases want with
        | true => rw [if_pos (by decide)] at hK; rw [if_neg (by decide)]; exact skip hr hN hK
        | false => rw [if_neg (by decide)] at hK; rw [if_pos (by decide)]; exact .inl (run hr hN hK)
     ·simp at hK
end
end Go.FP

namespace Go.FP
open Go.RowKit
section
variable {P : Program} {R : Type} {r : R} {c : Cx} {T : Tab} {sig : FuncId -> Option Sig} {caps : FuncId -> List Ty} {orc : Orc}
theorem RE.forgetD {env : Env} {tmps : Array Value} {w : World} {d : Nat} (hr : RE c env tmps w) (hd : d < env.length) : RE c (put (clear d env) d .undef) tmps w := by
 have hl := hr.len
 obtain ⟨vs, h⟩ := hr
 have h1 := h.addVal (n := env.length) (Nat.le_refl _) rfl (av := .undef) (v := tmps.getD d undef) (fun cs bs _ => ⟨[], trivial⟩) ⟨by simp [AV.refs], by simp [AV.ptrs]⟩
 have := RE.commit h1 hd
 rw [Y0, Ycy tmps d _ rfl (by omega)] at this
 unfold setD at this
 unfold clear
 simp only at this
 split at this
 ·rename_i hq; rw [if_pos hq]; exact this
 ·rename_i hq; rw [if_neg hq]; exact this
theorem Y23 {keep : List Nat} {tmps : Array Value} {w : World} : ∀ (ds : List Nat) {env : Env}, RE c env tmps w -> (∀ d ∈ ds, d < env.length) -> RE c (dropAll keep ds env) tmps w /\ (dropAll keep ds env).length = env.length
 | [], env, hr, _ => ⟨hr, rfl⟩
 | d :: ds, env, hr, hd => by
  unfold dropAll
  split
  ·exact Y23 ds hr (fun d' hd' => hd d' (List.mem_cons_of_mem _ hd'))
  ·have h1 := hr.forgetD (hd d List.mem_cons_self)
   have hlen : (put (clear d env) d .undef).length = env.length := by
    rw [Y7]; unfold clear; split
    ·rfl
    ·exact Y16 _ _
   obtain ⟨k1, k2⟩ := Y23 (keep := keep) ds h1 (fun d' hd' => by rw [hlen]; exact hd d' (List.mem_cons_of_mem _ hd'))
   exact ⟨k1, k2.trans hlen⟩
theorem RE.drew {env : Env} {tmps : Array Value} {w : World} (hr : RE c env tmps w) : RE c env tmps { w with drawn := w.drawn + 1 } := by
 obtain ⟨vs, hl, cs, bs, h, hno⟩ := hr
 exact ⟨vs, hl, cs, bs, h.world (w' := { w with drawn := w.drawn + 1 }) ⟨rfl, rfl, rfl, Nat.le_refl _, fun _ _ => rfl⟩, hno⟩
def DrawHyp {R : Type} (T : Tab) (sig : FuncId -> Option Sig) (caps : FuncId -> List Ty) (orc : Orc) (dr : Array Oper -> Env -> (Env -> Option R) -> Option R) : Prop :=
 ∀ (ops : Array Oper) (env : Env) (K : Env -> Option R) (r : R), dr ops env K = some r -> ∀ t, ∃ π, evOps T sig caps orc ops (π.filterMap (ops[·]?)) env K = some r /\
  ∀ (P : Program) (Q : Exit -> Act -> World -> Prop) (a : Act) (w : World), (∀ c a w, ¬ Q (.panic c) a w) -> ¬ LetsOut Q -> wpOps P ops Q π a w -> wpOps P ops Q (Region.linearise .any ops t) a w
theorem Oper.wp_monoQ {P : Program} {o : Oper} {a : Act} {w : World} {K : Act -> World -> Prop} {Q Q' : Exit -> Act -> World -> Prop} (h : ∀ e a w, Q e a w -> Q' e a w) (hh : o.wp P a w K Q) : o.wp P a w K Q' := by
 unfold Oper.wp at *
 generalize (execOp a.eval o).run P w = r at *
 cases r with
 | ok n w' =>
  cases n <;> simp only [Oper.upon] at hh ⊢ <;>
   first
    | exact hh
    | exact Calls.mono hh (fun e w'' he => by cases e <;> first | exact he | exact h _ _ _ he | exact he.imp fun a => Exists.imp fun w => h _ _ _)
 | halt x w' => cases x <;> simp only [Oper.upon] at hh ⊢ <;> first | exact hh | exact h _ _ _ hh
theorem Y2y {P : Program} {ops : Array Oper} {Q Q' : Exit -> Act -> World -> Prop} (h : ∀ e a w, Q e a w -> Q' e a w) : ∀ {l : List Nat} {a : Act} {w : World}, wpOps P ops Q l a w -> wpOps P ops Q' l a w
 | [], a, w, hh => h _ _ _ hh
 | i :: l, a, w, hh => by
  rw [wpOps_cons] at hh ⊢
  unfold wpOp at *
  split
  ·rename_i ho
   simp only [ho] at hh
   exact Y2y h hh
  ·rename_i o ho
   simp only [ho] at hh
   split
   ·rename_i hw
    simp only [hw, if_true] at hh
    rcases hh with hh | ⟨h1, a2, w2, h2⟩
    ·exact .inl (Oper.wp_mono (fun a w h' => Y2y h h') (Oper.wp_monoQ h hh))
    ·exact .inr ⟨h1, a2, w2, h _ _ _ h2⟩
   ·rename_i hw
    simp only [hw] at hh
    exact Y2y h hh
theorem Yc3 (ops : Array Oper) : (List.range ops.size).filterMap (ops[·]?) = ops.toList := by
 apply List.ext_getElem?
 intro i
 rw [<- Array.length_toList]
 have : ∀ (l : List Oper), (List.range l.length).filterMap (fun i => l[i]?) = l := by
  intro l
  induction l with
  | nil => rfl
  | cons x l ih =>
   rw [List.length_cons, List.range_succ_eq_map, List.filterMap_cons_some (by rfl), List.filterMap_map]
   congr 1
 have h2 := this ops.toList
 simp only [Array.getElem?_toList] at h2
 rw [h2]
theorem Y54 {ops : List Oper} {tmps : Array Value} {w : World} {s : Nat} {env : Env} (hr : RE c env tmps w) : RE c (preRow T ops s env) tmps w /\ (preRow T ops s env).length = env.length := by
 unfold preRow
 split
 ·split
  ·rename_i ls hrd
   refine ⟨?_, (Ym _ _).2⟩
   have h1 : ∀ q ∈ (AV.con .val ls).refs, q.1 < env.length := by rw [<- hrd]; exact (hr.refs _ _).1
   obtain ⟨vs, h⟩ := hr
   exact ⟨vs, h.freezeAll _ (fun l hl q hq => h1 q (List.mem_flatMap.2 ⟨l, hl, hq⟩)) (fun r => .inl rfl)⟩
  ·exact ⟨hr, rfl⟩
 ·split
  ·rename_i r' j hlf
   have hlt : r' < env.length := by
    unfold loadedFrom at hlf
    split at hlf
    ·split at hlf
     ·split at hlf
      ·rename_i q o hx
       simp only [Option.some.injEq, Prod.mk.injEq] at hlf
       obtain ⟨rfl, _⟩ := hlf
       exact (hr.refs none _).2 _ (by rw [hx]; simp [AV.ptrs])
      ·simp at hlf
     ·split at hlf
      ·rename_i q o hx
       simp only [Option.some.injEq, Prod.mk.injEq] at hlf
       obtain ⟨rfl, _⟩ := hlf
       exact (hr.refs none _).2 _ (by rw [hx]; simp [AV.ptrs])
      ·simp at hlf
     ·simp at hlf
    ·simp at hlf
   refine ⟨?_, (Y3e r' j env).2⟩
   obtain ⟨vs, h⟩ := hr
   exact ⟨vs, h.freezeAll [⟨.unit, (), .bor r' j []⟩] (fun l hl p hp => by
    rw [List.mem_singleton.1 hl] at hp
    simp only [Leaf.refs, List.mem_singleton] at hp
    rw [hp]
    exact hlt) (fun r => .inl rfl)⟩
  ·exact ⟨hr, rfl⟩
theorem Y2u {ops : List Oper} {tmps : Array Value} {w : World} : ∀ (ps : List (Nat × Operand)) {env : Env}, RE c env tmps w -> RE c (preElems T ops ps env) tmps w /\ (preElems T ops ps env).length = env.length
 | [], env, hr => ⟨hr, rfl⟩
 | p :: ps, env, hr => by
  unfold preElems
  split
  ·rename_i b hb
   have h1 := Y54 (T := T) (ops := ops) (s := b) hr
   obtain ⟨h2, h3⟩ := Y2u ps h1.1
   exact ⟨h2, h3.trans h1.2⟩
  ·exact Y2u ps hr
theorem Y71 {ops : List Oper} {tmps : Array Value} {w : World} : ∀ (l : List Oper) {env : Env}, RE c env tmps w -> RE c (preF T ops l env) tmps w /\ (preF T ops l env).length = env.length
 | [], env, hr => ⟨hr, rfl⟩
 | o :: l, env, hr => by
  have key : ∀ env', RE c env' tmps w /\ env'.length = env.length -> RE c (preF T ops l env') tmps w /\ (preF T ops l env').length = env.length := fun env' h => by
   obtain ⟨k1, k2⟩ := Y71 l h.1
   exact ⟨k1, k2.trans h.2⟩
  unfold preF
  refine key _ ?_
  split
  ·exact Y54 hr
  ·exact Y2u _ hr
  ·exact ⟨hr, rfl⟩
theorem Y55 (hT : TabOk P T) (hO : OrcOk P sig orc) (hm : P.follows .mixedOrders = true) {dr : Array Oper -> Env -> (Env -> Option R) -> Option R} (hdraw : DrawHyp (R := R) T sig caps orc dr) {fuel : Nat} {ann : Nat -> Option (List Nat)} {N : Nat} {D : List Deferred} :
  ∀ (code : Code) {m : Nat} {env : Env} {K : Exit -> Env -> Option R} {Q : Exit -> Act -> World -> Prop} {a : Act} {w : World}, RE c env a.tmps w -> env.length = N -> a.defers = D ->
   (∀ e env' a' w', K e env' = some r -> RE c env' a'.tmps w' -> env'.length = N -> a'.defers = D -> Q e a' w') -> evCode T sig caps orc dr fuel ann m code env K = some r -> code.wp P Q a w := by
 intro code
 induction code with
 | skip =>
  intro m env K Q a w hr hN hD hQ hK
  simp only [evCode] at hK
  exact wp_skip (hQ _ _ _ _ hK hr hN hD)
 | region id ops draw =>
  intro m env K Q a w hr hN hD hQ hK
  simp only [evCode] at hK
  cases draw with
  | false =>
   simp only [Bool.false_eq_true, if_false] at hK
   refine wp_region (Y1q (caps := caps) hT hO (K := K .normal) (N := N) (D := D) (fun env' a' w' h1 h2 h3 h4 => hQ _ _ _ _ h1 h2 h3 h4) _ hr hN hD ?_)
   rw [Yc3]
   exact hK
  | true =>
   simp only [if_true] at hK
   refine wp_region_draw (fun t => ?_)
   simp only [Region.schedule, hm, Bool.true_or, if_true]
   obtain ⟨p1, p2⟩ := Y71 (ops := ops.toList) ops.toList hr
   obtain ⟨π, q1, q2⟩ := hdraw ops _ _ r hK t
   refine Y2y (Q := fun e a w => e = .normal /\ Q .normal a w) (fun e a w h => by obtain ⟨rfl, h⟩ := h; exact h) (q2 _ _ _ _ (fun c a w h => by cases h.1) (fun ⟨a, w, h⟩ => by cases h.1) ?_)
   exact Y1q hT hO (K := K .normal) (N := N) (D := D) (fun env' a' w' h1 h2 h3 h4 => ⟨rfl, hQ _ _ _ _ h1 h2 h3 h4⟩) _ p1.drew (p2.trans hN) hD q1
 | seq x y ihx ihy =>
  intro m env K Q a w hr hN hD hQ hK
  simp only [evCode] at hK
  refine wp_seq (ihx hr hN hD (fun e env' a' w' h1 h2 h3 h4 => ?_) hK)
  cases e with
  | normal => exact ihy h2 h3 h4 hQ h1
  | _ => exact hQ _ _ _ _ h1 h2 h3 h4
 | cond cc x y ihx ihy =>
  intro m env K Q a w hr hN hD hQ hK
  simp only [evCode] at hK
  split at hK
  ·rename_i t hb
   have hc := hr.bool1 hb
   refine wp_cond (t := t) (by rw [Y5]; exact hc) ?_
   cases t with
   | true => exact ihx hr hN hD hQ hK
   | false => exact ihy hr hN hD hQ hK
  ·simp at hK
 | block id x ih =>
  intro m env K Q a w hr hN hD hQ hK
  simp only [evCode] at hK
  refine wp_block (ih hr hN hD (fun e env' a' w' h1 h2 h3 h4 => ?_) hK)
  cases e with
  | exit id' =>
   simp only at h1
   show if id' = id then Q .normal a' w' else Q (.exit id') a' w'
   split at h1
   ·rename_i hid; rw [if_pos hid]; exact hQ _ _ _ _ h1 h2 h3 h4
   ·rename_i hid; rw [if_neg hid]; exact hQ _ _ _ _ h1 h2 h3 h4
  | _ => exact hQ _ _ _ _ h1 h2 h3 h4
 | loop x ih =>
  intro m env K Q a w hr hN hD hQ hK
  simp only [evCode] at hK
  split at hK
  ·simp at hK
  ·rename_i keep hkeep
   refine wp_loop_rounds fuel ?_
   have key : ∀ (n : Nat) {env : Env} {a : Act} {w : World}, RE c env a.tmps w -> env.length = N -> a.defers = D ->
     iter (fun rec env => evCode T sig caps orc dr fuel ann m x env fun e env' => match e with | .normal => rec (dropAll keep (List.range env'.length) env') | e => K e env') n env = some r -> Code.rounds P x Q n a w := by
    intro n
    induction n with
    | zero => intro env a w _ _ _ hK; simp [iter] at hK
    | succ n ihn =>
     intro env a w hr hN hD hK
     simp only [iter] at hK
     rw [rounds_succ]
     refine ih hr hN hD (fun e env' a' w' h1 h2 h3 h4 => ?_) hK
     cases e with
     | normal =>
      obtain ⟨k1, k2⟩ := Y23 (keep := keep) (List.range env'.length) h2 (fun d hd => List.mem_range.1 hd)
      exact ihn k1 (by rw [k2]; exact h3) h4 h1
     | _ => exact hQ _ _ _ _ h1 h2 h3 h4
   obtain ⟨k1, k2⟩ := Y23 (keep := keep) (List.range env.length) hr (fun d hd => List.mem_range.1 hd)
   exact key fuel k1 (by rw [k2]; exact hN) hD hK
 | exit id =>
  intro m env K Q a w hr hN hD hQ hK
  simp only [evCode] at hK
  exact wp_exit (hQ _ _ _ _ hK hr hN hD)
 | ret =>
  intro m env K Q a w hr hN hD hQ hK
  simp only [evCode] at hK
  exact wp_ret (hQ _ _ _ _ hK hr hN hD)
 | _ => intro m env K Q a w hr hN hD hQ hK; simp [evCode] at hK
end
end Go.FP

namespace Go.FP
open Go.RowKit
def ArgOk (S : Nat -> Prop) (w : World) (c : Cx) (av : AV) (v : Value) (cells : List Value) : Prop :=
 ∀ (s : St) (r : Nat), s.w = w -> (∀ b, S b -> RoS c s b) -> (∀ l, s.bs r l = []) -> s.cs r = cells -> AVRel c s r av v /\ av.refs = [] /\ av.ptrs = []
theorem Y97 {S : Nat -> Prop} {w : World} {c : Cx} {rv : RV} {v : Value} {av : AV} (h : RVRel S w rv v) (hp : paramAV rv = some av) : ∃ cells, ArgOk S w c av v cells := by
 cases rv with
 | val t x =>
  obtain ⟨ch, rfl, hrep⟩ := h
  simp only [paramAV, Option.some.injEq] at hp
  subst hp
  obtain ⟨h1, h2⟩ := Y1u t (fun _ => .at_ .ro) 0 hrep
  refine ⟨ch, fun s r hw hS hb hc => ⟨?_, Y2k t x 0, rfl⟩⟩
  refine ⟨?_, by rw [hc]; exact h1, fun l _ => hb _, fun l lf u hl hu => ?_⟩
  ·rw [hc]
   exact (Y1y (w := s.w) (fun ha => by rw [hrep.len]; exact Y34 ha)).bare (hb 0)
  ·rw [hc] at hu
   have hm := Y2x t x 0 lf (Yc hl)
   have := (h2 l lf u (by rw [<- Y1]; exact hl) hu).1
   refine LeafRel.of_held (by rw [hm]; rfl) (hb _) ?_
   obtain ⟨t', x', m⟩ := lf
   simp only at hm
   subst hm
   show Rep (RoS c s) s.w _ _ _ _ _
   rw [hw]
   exact Rep.move (fun b hb _ => ⟨hS b hb, rfl⟩) (by simp) this
 | ptr t x =>
  obtain ⟨a, ch, rfl, hSa, hlt, hcell, hrep⟩ := h
  simp only [paramAV, Option.some.injEq] at hp
  subst hp
  obtain ⟨h1, h2⟩ := Y1u t (fun _ => .at_ .ro) 0 hrep
  refine ⟨[], fun s r hw hS hb hc => ⟨?_, by simp only [AV.refs, List.append_nil]; exact Y2k t x 0, rfl⟩⟩
  refine ⟨hb, a, rfl, fun l lf hl => ?_, hS _ hSa, by rw [hw]; exact hlt⟩
  have hm := Y2x t x 0 lf (Yc hl)
  refine ⟨by rw [hm]; rfl, ?_⟩
  have hl' := hl
  rw [Y1] at hl'
  have hll : l < ch.length := by rw [<- h1]; exact (List.getElem?_eq_some_iff.1 hl').1
  refine ⟨ch[l], by rw [hw]; exact hcell l _ (List.getElem?_eq_getElem hll), ?_⟩
  have := (h2 l lf ch[l] hl' (List.getElem?_eq_getElem hll)).1
  obtain ⟨t', x', m⟩ := lf
  simp only at hm
  subst hm
  show Rep (RoS c s) s.w _ _ _ _ _
  rw [hw]
  exact Rep.move (fun b hb _ => ⟨hS b hb, rfl⟩) (by simp) this
 | clo f caps =>
  obtain ⟨us, rfl, hps⟩ := h
  simp only [paramAV, Option.some.injEq] at hp
  subst hp
  exact ⟨[], fun s r hw hS hb hc => ⟨⟨hb, us, rfl, hps.move (fun b hb _ => ⟨hS b hb, by rw [hw]⟩)⟩, rfl, rfl⟩⟩
 | fptr f caps => exact h.elim
theorem Y7y {S : Nat -> Prop} {w : World} {c : Cx} : ∀ {args : List RV} {vals : List Value} {as : List AV}, RVRels S w args vals -> paramAVs args = some as -> vals.length = as.length /\ ∃ cs : Nat -> List Value, ∀ r, r < as.length -> ArgOk S w c (get as r) (vals.getD r undef) (cs r)
 | [], vals, as, h, hp => by
  simp only [paramAVs, Option.some.injEq] at hp
  subst hp
  exact ⟨by rw [show vals = [] from h]; rfl, fun _ => [], fun r hr => by simp at hr⟩
 | rv :: args, vals, as, ⟨v, vals', e, h1, h2⟩, hp => by
  simp only [paramAVs] at hp
  cases ha : paramAV rv with
  | none => rw [ha] at hp; simp at hp
  | some av =>
   cases has : paramAVs args with
   | none => rw [ha, has] at hp; simp at hp
   | some as' =>
    rw [ha, has] at hp
    simp only [Option.some.injEq] at hp
    subst hp; subst e
    obtain ⟨k1, cs, k2⟩ := Y7y (c := c) h2 has
    obtain ⟨cells, k3⟩ := Y97 (c := c) h1 ha
    refine ⟨by simp [k1], fun r => match r with | 0 => cells | r + 1 => cs r, fun r hr => ?_⟩
    cases r with
    | zero => exact k3
    | succ r => exact k2 r (by simpa using hr)
theorem Y3a : ∀ (as bs : Env) (r : Nat), r < as.length -> get (as ++ bs) r = get as r
 | [], bs, r, h => by simp at h
 | a :: as, bs, 0, _ => rfl
 | a :: as, bs, r + 1, h => Y3a as bs r (by simpa using h)
theorem Y3b : ∀ (as bs : Env) (r : Nat), as.length <= r -> get (as ++ bs) r = get bs (r - as.length)
 | [], bs, r, h => by simp
 | a :: as, bs, 0, h => by simp at h
 | a :: as, bs, r + 1, h => by
  simp only [List.cons_append, get, List.length_cons, Nat.add_sub_add_right]
  exact Y3b as bs r (by simpa using h)
theorem Y7j : ∀ (n r : Nat) (v : AV), r < n -> get (List.replicate n v) r = v
 | 0, r, v, h => by omega
 | n + 1, 0, v, _ => rfl
 | n + 1, r + 1, v, h => Y7j n r v (by omega)
def cx0 (S : Nat -> Prop) (w : World) : Cx := ⟨S, w.heap.size, w, fun _ => default, fun _ => False, default, fun _ => default⟩
theorem Yds {S : Nat -> Prop} {w : World} {args : List RV} {vals : List Value} {as : List AV} (h : RVRels S w args vals) (hp : paramAVs args = some as) {n : Nat} (hn : as.length <= n) :
  RE (cx0 S w) (as ++ List.replicate (n - as.length) .skip) (vals.toArray ++ Array.replicate (n - vals.toArray.size) undef) w := by
 obtain ⟨k1, cs, k2⟩ := Y7y (c := (cx0 S w)) h hp
 have hsz : vals.toArray.size = as.length := by simpa using k1
 let env : Env := as ++ List.replicate (n - as.length) .skip
 let tmps : Array Value := vals.toArray ++ Array.replicate (n - vals.toArray.size) undef
 have hel : env.length = n := by simp [env]; omega
 have htl : tmps.size = n := by simp [tmps]; omega
 let bs : Nat -> Nat -> List Nat := fun _ _ => []
 let s : St := SS env noP tmps noV w cs bs
 have hRoS : ∀ b, S b -> RoS (cx0 S w) s b := fun b hb => ⟨fun _ _ => by simp [s, bs], .inl hb⟩
 have hget : ∀ r, r < as.length -> ovl env noP r = get as r /\ ovlT tmps noV r = vals.getD r undef := fun r hr => by
  refine ⟨by rw [Y8 (by omega)]; exact Y3a _ _ _ hr, ?_⟩
  show (if r < tmps.size then tmps.getD r undef else _) = _
  rw [if_pos (by omega)]
  have : r < vals.length := by omega
  simp [tmps, this, Array.getD_eq_getD_getElem?, Array.getElem?_append, List.getD_eq_getElem?_getD]
 have hav : ∀ r, AVRel (cx0 S w) s r (ovl env noP r) (ovlT tmps noV r) /\ (ovl env noP r).refs = [] /\ (ovl env noP r).ptrs = [] := fun r => by
  by_cases h1 : r < as.length
  ·rw [(hget r h1).1, (hget r h1).2]
   exact k2 r h1 s r rfl hRoS (fun _ => rfl) rfl
  ·by_cases h2 : r < n
   ·have e1 : ovl env noP r = .skip := by
     rw [Y8 (by omega)]
     show get (as ++ _) r = _
     rw [Y3b _ _ _ (by omega), Y7j _ _ _ (by omega)]
    have e2 : ovlT tmps noV r = undef := by
     show (if r < tmps.size then tmps.getD r undef else _) = _
     rw [if_pos (by omega)]
     simp only [tmps, Array.getD_eq_getD_getElem?]
     rw [Array.getElem?_append_right (by omega), Array.getElem?_replicate]
     split <;> rfl
    rw [e1, e2]
    exact ⟨⟨rfl, fun _ => rfl⟩, rfl, rfl⟩
   ·have e1 : ovl env noP r = .undef := by rw [Yo (by omega)]; rfl
    rw [e1]
    exact ⟨fun _ => rfl, rfl, rfl⟩
 refine ⟨noV, by rw [hel, htl], cs, bs, ⟨Below.refl _ _, Nat.le_refl _, fun r l b hb => by simp [bs] at hb, fun r l r' l' b hb => by simp [bs] at hb, fun r l => List.nodup_nil, fun r => (hav r).1, fun b hb => hb.elim⟩, fun r => ?_⟩
 rw [(hav r).2.1, (hav r).2.2]
 exact ⟨by simp, by simp⟩
end Go.FP

namespace Go.FP
open Go.RowKit
def ownB (bs : Nat -> Nat -> List Nat) (t : Ty) (d : Nat) : List Nat := (List.range' 0 t.sz).flatMap fun l => bs d (l + 1)
def outB (cs : Nat -> List Value) (bs : Nat -> Nat -> List Nat) (d l : Nat) : List Nat := (bs d l).filter fun b => decide (((cs d).getD (l - 1) undef).ownBlock = some b)
def resB1 (cs : Nat -> List Value) (bs : Nat -> Nat -> List Nat) (t : Ty) (fr : Lvl) (d : Nat) : List Nat := match fr with
 | .dp => ownB bs t d
 | .sh => ownB (outB cs bs) t d
 | _ => []
theorem Rep.outer {S S' : Nat -> Prop} {w : World} {e : TypeId} {t : Ty} {lv : Lvl} {u : Value} {x : List t.D} {B : List Nat} (h : Rep S w (.slice e t) lv [u] x B) (hlv : lv = .dp \/ lv = .sh) (hnd : B.Nodup) (h1 : ∀ b, S b -> S' b) (h2 : ∀ b ∈ B, b ∉ (B.filter fun b => decide (u.ownBlock = some b)) -> S' b) :
  Rep S' w (.slice e t) .sh [u] x (B.filter fun b => decide (u.ownBlock = some b)) := by
 obtain ⟨v, xs, b0, b1, e1, rfl, hel, hrow⟩ := h
 obtain rfl : u = v := by simpa using e1
 obtain ⟨rfl, hown⟩ : b0 = u.ownBlock.toList /\ w.ownsRow 0 e t.sz u x.length xs := by rcases hlv with rfl | rfl <;> exact hrow
 have hf : ((u.ownBlock.toList ++ b1).filter fun b => decide (u.ownBlock = some b)) = u.ownBlock.toList := by
  rw [List.filter_append]
  have k1 : (u.ownBlock.toList.filter fun b => decide (u.ownBlock = some b)) = u.ownBlock.toList := List.filter_eq_self.2 (fun b hb => decide_eq_true (Yb.1 hb))
  have k2 : (b1.filter fun b => decide (u.ownBlock = some b)) = [] := List.filter_eq_nil_iff.2 (fun b hb hd => (List.nodup_append.1 hnd).2.2 b (Yb.2 (of_decide_eq_true hd)) b hb rfl)
  rw [k1, k2, List.append_nil]
 rw [hf] at h2 ⊢
 refine ⟨u, xs, _, [], rfl, (List.append_nil _).symm, ?_, rfl, hown⟩
 refine El.bareW (bs := b1) (fun c x b hk hx => ?_) (fun k hk => hk) hel
 refine Rep.move (S := fun b' => S b' \/ b' ∈ b) (fun b' hb' _ => ⟨?_, rfl⟩) (by simp) (Rep.ro hx)
 rcases hb' with hb' | hb'
 ·exact h1 _ hb'
 ·refine h2 _ (List.mem_append_right _ (hk _ hb')) (fun hm => (List.nodup_append.1 hnd).2.2 _ hm _ (hk _ hb') rfl)
def resB (cs : Nat -> List Value) (bs : Nat -> Nat -> List Nat) : List (Ty × Lvl) -> List ResultVar -> List Nat
 | p :: ps, v :: vs => resB1 cs bs p.1 p.2 (resTmp v) ++ resB cs bs ps vs
 | _, _ => []
section
variable {P : Program} {c : Cx} {T : Tab}
theorem Y98 {bs : Nat -> Nat -> List Nat} {t : Ty} {d b : Nat} (h : b ∈ ownB bs t d) : ∃ l, b ∈ bs d (l + 1) := by
 simp only [ownB, List.mem_flatMap] at h
 obtain ⟨l, _, h⟩ := h
 exact ⟨l, h⟩
theorem Y7z {cs : Nat -> List Value} {bs : Nat -> Nat -> List Nat} {t : Ty} {fr : Lvl} {d b : Nat} (h : b ∈ resB1 cs bs t fr d) : ∃ l, b ∈ bs d (l + 1) := by
 cases fr with
 | dp => exact Y98 h
 | sh =>
  obtain ⟨l, hl⟩ := Y98 h
  exact ⟨l, (List.mem_filter.1 hl).1⟩
 | ro => simp [resB1] at h
 | pn _ => simp [resB1] at h
theorem Y2v {cs : Nat -> List Value} {bs : Nat -> Nat -> List Nat} : ∀ {rs : List (Ty × Lvl)} {vars : List ResultVar} {b : Nat}, b ∈ resB cs bs rs vars -> ∃ (i : Nat) (p : Ty × Lvl) (v : ResultVar) (l : Nat), rs[i]? = some p /\ vars[i]? = some v /\ b ∈ resB1 cs bs p.1 p.2 (resTmp v) /\ b ∈ bs (resTmp v) (l + 1)
 | [], vars, b, h => by simp [resB] at h
 | p :: ps, [], b, h => by simp [resB] at h
 | p :: ps, v :: vs, b, h => by
  simp only [resB, List.mem_append] at h
  rcases h with h | h
  ·obtain ⟨l, hl⟩ := Y7z h
   exact ⟨0, p, v, l, rfl, rfl, h, hl⟩
  ·obtain ⟨i, p', v', l, h1, h2, h3, h4⟩ := Y2v h
   exact ⟨i + 1, p', v', l, h1, h2, h3, h4⟩
theorem Y99 {env : Env} {tmps : Array Value} {vs : Nat -> Value} {w : World} {cs : Nat -> List Value} {bs : Nat -> Nat -> List Nat} (hr : Rel c (SS env noP tmps vs w cs bs)) {t : Ty} {fr : Lvl} {d : Nat} {k : Kind} {ls : List Leaf} {x : t.D} (hk : get env d = .con k ls)
  (hall : (ls.all fun l => l.m.settled && fr.asks l) = true) (has : asm t ls = some (x, [])) :
  ∀ S' : Nat -> Prop, (∀ b, RoS c (SS env noP tmps vs w cs bs) b -> S' b) -> (∀ l, ∀ b ∈ bs d (l + 1), b ∉ resB1 cs bs t fr d -> S' b) -> Rep S' w t fr.res (cs d) x (resB1 cs bs t fr d) := by
 have hd : d < env.length := Yv hk
 have hav := hr.av d
 have e1 : (SS env noP tmps vs w cs bs).env d = .con k ls := by show ovl env noP d = _; rw [Y8 hd, hk]
 rw [e1] at hav
 obtain ⟨_, g2, g3, g4⟩ := hav
 have hleaf : ∀ l lf u, ls[l]? = some lf -> (cs d)[l]? = some u -> ∃ lv, lf.m = .at_ lv /\ Rep (RoS c (SS env noP tmps vs w cs bs)) w lf.t lv [u] lf.x (bs d (l + 1)) /\ (match lf.t with | .slice _ _ => (match fr with | .dp => lv = .dp | .sh => lv = .dp \/ lv = .sh | _ => True) | _ => True) := by
  intro l lf u hl hu
  have h6 := g4 l lf u (by rw [Y1]; exact hl) hu
  have h7 := List.all_eq_true.1 hall lf (List.mem_of_getElem? hl)
  simp only [Bool.and_eq_true] at h7
  obtain ⟨h7, h8⟩ := h7
  obtain ⟨t', x', m⟩ := lf
  cases m with
  | at_ lv =>
   refine ⟨lv, rfl, h6.rep, ?_⟩
   cases t' with
   | slice e τ =>
    cases fr with
    | dp => simpa [Lvl.asks] using h8
    | sh => simpa [Lvl.asks] using h8
    | _ => trivial
   | _ => trivial
  | bor _ _ _ => simp [Mode.settled] at h7
  | dead => simp [Mode.settled] at h7
 intro S' h1 h2
 have hdp : fr = .dp -> Rep S' w t .dp (cs d) x (ownB bs t d) := by
  intro hfr
  subst hfr
  obtain ⟨c0, c1, k1, k2, k3, k4, _⟩ := Y2m (S := S') (w := w) (L := .dp) (F := fun l => bs d (l + 1)) t (k := 0) has g2 (fun l lf u hl hu => by
   obtain ⟨lv, h1, h2, h3⟩ := hleaf l lf u hl hu
   rw [Nat.zero_add]
   obtain ⟨us, e0, hna⟩ := Y36 t has
   rw [List.append_nil] at e0
   have hna := hna lf (by rw [<- e0]; exact List.mem_of_getElem? hl)
   obtain ⟨t', x', m⟩ := lf
   simp only at h1 h2 h3
   cases t' with
   | slice e τ => simp only at h3; subst h3; exact Rep.dpS h2
   | int _ => exact h2
   | bool => exact h2
   | str => exact h2
   | unit => simp [Ty.isAgg] at hna
   | pair _ _ => simp [Ty.isAgg] at hna)
  have : c1 = [] := List.length_eq_zero_iff.1 k3.symm
  subst this
  rw [List.append_nil] at k1
  have k1 : cs d = c0 := k1
  rw [k1]
  exact k4
 have hsh : fr = .sh -> Rep S' w t .sh (cs d) x (ownB (outB cs bs) t d) := by
  intro hfr
  subst hfr
  obtain ⟨c0, c1, k1, k2, k3, k4, _⟩ := Y2m (S := S') (w := w) (L := .sh) (F := fun l => outB cs bs d (l + 1)) t (k := 0) has g2 (fun l lf u hl hu => by
   obtain ⟨lv, _, hr2, h3⟩ := hleaf l lf u hl hu
   rw [Nat.zero_add]
   have hob : outB cs bs d (l + 1) = (bs d (l + 1)).filter fun b => decide (u.ownBlock = some b) := by
    unfold outB
    rw [Nat.add_sub_cancel, List.getD_eq_getElem?_getD, hu]; rfl
   obtain ⟨us, e0, hna⟩ := Y36 t has
   rw [List.append_nil] at e0
   have hna := hna lf (by rw [<- e0]; exact List.mem_of_getElem? hl)
   have hnb : ∀ b ∈ bs d (l + 1), b ∉ outB cs bs d (l + 1) -> S' b := by
    intro b hb hnb
    refine h2 l b hb (fun hm => ?_)
    simp only [resB1, ownB, List.mem_flatMap] at hm
    obtain ⟨l', _, hm⟩ := hm
    have := (hr.disj _ _ _ _ _ hb (List.mem_filter.1 hm).1).2
    obtain rfl : l = l' := by omega
    exact hnb hm
   rw [hob] at hnb ⊢
   obtain ⟨t', x', m⟩ := lf
   simp only at hr2 h3
   cases t' with
   | slice e τ => exact Rep.outer hr2 h3 (hr.nodup _ _) h1 hnb
   | int _ => obtain ⟨q1, q2⟩ := hr2; rw [q2]; exact ⟨q1, rfl⟩
   | bool => obtain ⟨q1, q2⟩ := hr2; rw [q2]; exact ⟨q1, rfl⟩
   | str => obtain ⟨q1, q2⟩ := hr2; rw [q2]; exact ⟨q1, rfl⟩
   | unit => simp [Ty.isAgg] at hna
   | pair _ _ => simp [Ty.isAgg] at hna)
  have : c1 = [] := List.length_eq_zero_iff.1 k3.symm
  subst this
  rw [List.append_nil] at k1
  have k1 : cs d = c0 := k1
  rw [k1]
  exact k4
 have hro : resB1 cs bs t fr d = [] -> fr.res = .ro -> Rep S' w t fr.res (cs d) x (resB1 cs bs t fr d) := by
  intro hnil hres
  rw [hres, hnil]
  rw [hnil] at h2
  obtain ⟨c0, c1, k1, k3, k4, _⟩ := Y3m (S := S') (w := w) t has g2 (fun l lf u hl hu => by
   obtain ⟨lv, _, h3, _⟩ := hleaf l lf u hl hu
   exact h3.roS (fun b hb _ => h1 b hb) (fun b hb => h2 l b hb (by simp)))
  have : c1 = [] := List.length_eq_zero_iff.1 k3.symm
  subst this
  rw [List.append_nil] at k1
  have k1 : cs d = c0 := k1
  rw [k1]
  exact k4
 cases fr with
 | dp => exact hdp rfl
 | sh => exact hsh rfl
 | ro => exact hro rfl rfl
 | pn _ => exact hro rfl rfl
def rvRun (tmps : Array Value) : ResultVar -> Sem Value := fun
  | ResultVar.tmp t => pure (tmps.getD t undef)
  | ResultVar.cell a t => do loadVar t (<- asAddr (tmps.getD a undef))
def RunsTo (P : Program) (tmps : Array Value) (w : World) (v : ResultVar) (u : Value) : Prop := Sem.run P (rvRun tmps v) w = Result.ok u w
theorem Ycz (hT : TabOk P T) {env : Env} {tmps : Array Value} {vs : Nat -> Value} {w : World} {cs : Nat -> List Value} {bs : Nat -> Nat -> List Nat} (hlen : env.length = tmps.size) (hr : Rel c (SS env noP tmps vs w cs bs)) {t : Ty} {fr : Lvl} {v : ResultVar} {x : t.D} (h : res1 T env t fr v = some x) :
  ∃ ch, RunsTo P tmps w v (mkV t.isAgg ch) /\ ∀ S' : Nat -> Prop, (∀ b, RoS c (SS env noP tmps vs w cs bs) b -> S' b) -> (∀ l, ∀ b ∈ bs (resTmp v) (l + 1), b ∉ resB1 cs bs t fr (resTmp v) -> S' b) -> Rep S' w t fr.res ch x (resB1 cs bs t fr (resTmp v)) := by
 cases v with
 | cell d tid =>
  simp only [res1] at h
  split at h
  ·rename_i htid
   split at h
   ·rename_i e ls hk
    split at h
    ·rename_i hall
     split at h
     ·rename_i y has
      simp only [Option.some.injEq] at h
      subst h
      have k2 := Y99 hr hk hall has
      refine ⟨cs d, ?_, k2⟩
      have hd : d < env.length := Yv hk
      have hav := hr.av d
      have e1 : (SS env noP tmps vs w cs bs).env d = .con (.box e) ls := by show ovl env noP d = _; rw [Y8 hd, hk]
      have e2 : (SS env noP tmps vs w cs bs).tm d = tmps.getD d undef := if_pos (hlen ▸ hd)
      rw [e1, e2] at hav
      obtain ⟨⟨B, g1, g2, _⟩, _⟩ := hav
      have hl := (k2 (fun _ => True) (fun _ _ => trivial) (fun _ _ _ _ => trivial)).len
      have hload := Y4c (P := P) (w := w) hT htid (x := ⟨B, 0, none⟩) hl (fun j u hu => by
       rw [Y26]
       unfold World.cell?
       rw [show w.heap[B]? = _ from g2]
       simpa using hu)
      simp only [RunsTo, rvRun]
      rw [g1]
      simpa [Instr.loadAt, Instr.sureAddr, asAddr] using hload
     ·simp at h
    ·simp at h
   ·simp at h
  ·simp at h
 | tmp d =>
  simp only [res1] at h
  split at h
  ·rename_i k ls hk
   split at h
   ·rename_i hc
    simp only [Bool.and_eq_true, decide_eq_true_eq] at hc
    obtain ⟨hkind, hall⟩ := hc
    split at h
    ·rename_i y has
     simp only [Option.some.injEq] at h
     subst h
     have k2 := Y99 hr hk hall has
     refine ⟨cs d, ?_, k2⟩
     have hd : d < env.length := Yv hk
     have hav := hr.av d
     have e1 : (SS env noP tmps vs w cs bs).env d = .con k ls := by show ovl env noP d = _; rw [Y8 hd, hk]
     have e2 : (SS env noP tmps vs w cs bs).tm d = tmps.getD d undef := if_pos (hlen ▸ hd)
     rw [e1, e2] at hav
     obtain ⟨g1, _⟩ := hav
     have hval : tmps.getD d undef = mkV t.isAgg (cs d) := by
      subst hkind
      unfold Ty.kind at g1
      unfold mkV
      split at g1
      ·rename_i ha
       rw [ha]
       exact g1.1
      ·rename_i ha
       have ha : t.isAgg = false := by simpa using ha
       rw [ha]
       rw [show cs d = [tmps.getD d undef] from g1.1]
       rfl
     simp only [RunsTo, rvRun]
     rw [hval]
     simp
    ·simp at h
   ·simp at h
  ·simp at h
def RunsTos (P : Program) (tmps : Array Value) (w : World) : List ResultVar -> List Value -> Prop
 | [], us => us = []
 | v :: vs, us => ∃ u us', us = u :: us' /\ RunsTo P tmps w v u /\ RunsTos P tmps w vs us'
theorem Y6d (hT : TabOk P T) {S : Nat -> Prop} {env : Env} {tmps : Array Value} {vs : Nat -> Value} {w : World} {cs : Nat -> List Value} {bs : Nat -> Nat -> List Nat} (hlen : env.length = tmps.size) (hr : Rel c (SS env noP tmps vs w cs bs)) {base0 : Nat} (hS : ∀ b, (c.S0 b \/ c.mine b) -> (S b \/ base0 <= b)) {B : List Nat} (hB : ∀ b ∈ B, ∃ r l, b ∈ bs r l) :
  ∀ {rs : List (Ty × Lvl)} {vars : List ResultVar} {xs : List (Σ t : Ty, t.D)}, resN T env rs vars = some xs -> (∀ (i : Nat) (p : Ty × Lvl) (v : ResultVar), rs[i]? = some p -> vars[i]? = some v -> ∀ l, ∀ b ∈ bs (resTmp v) (l + 1), b ∉ resB1 cs bs p.1 p.2 (resTmp v) -> b ∉ B) ->
   ∃ chs, ResRel S base0 w B rs xs chs (resB cs bs rs vars) /\ RunsTos P tmps w vars (resVals rs chs)
 | [], [], xs, h, hne => by
  simp only [resN, Option.some.injEq] at h
  subst h
  exact ⟨[], ⟨rfl, rfl, rfl⟩, rfl⟩
 | [], v :: vars, xs, h, hne => by simp [resN] at h
 | p :: ps, [], xs, h, hne => by simp [resN] at h
 | (t, fr) :: ps, v :: vars, xs, h, hne => by
  simp only [resN] at h
  cases hx : res1 T env t fr v with
  | none => rw [hx] at h; simp at h
  | some x =>
   cases hxs : resN T env ps vars with
   | none => rw [hx, hxs] at h; simp at h
   | some xs' =>
    rw [hx, hxs] at h
    simp only [Option.some.injEq] at h
    subst h
    obtain ⟨ch, k2, k4⟩ := Ycz hT hlen hr hx
    obtain ⟨chs, m1, m2⟩ := Y6d hT hlen hr hS hB hxs (fun i p v h1 h2 => hne (i + 1) p v h1 h2)
    refine ⟨ch :: chs, ⟨x, xs', ch, chs, _, _, rfl, rfl, rfl, ?_, m1⟩, ⟨_, _, rfl, k2, m2⟩⟩
    refine k4 _ (fun b hb => ⟨hS b hb.2, fun hbB => ?_⟩) (fun l b hb hnb => ⟨hS b (.inr (hr.own _ _ _ hb).1), hne 0 _ _ rfl rfl l b hb hnb⟩)
    obtain ⟨r, l, h1⟩ := hB b hbB
    exact hb.1 r l h1
theorem Y56 {α : Type} : ∀ {l : List α}, l.Nodup -> ∀ {i j : Nat} {x : α}, l[i]? = some x -> l[j]? = some x -> i = j
 | [], _, i, j, x, hi, _ => by simp at hi
 | a :: l, h, 0, 0, x, _, _ => rfl
 | a :: l, h, 0, j + 1, x, hi, hj => by
  simp only [List.getElem?_cons_zero, Option.some.injEq] at hi
  subst hi
  exact absurd (List.mem_of_getElem? (by simpa using hj)) (List.nodup_cons.1 h).1
 | a :: l, h, i + 1, 0, x, hi, hj => by
  simp only [List.getElem?_cons_zero, Option.some.injEq] at hj
  subst hj
  exact absurd (List.mem_of_getElem? (by simpa using hi)) (List.nodup_cons.1 h).1
 | a :: l, h, i + 1, j + 1, x, hi, hj => by rw [Y56 (List.nodup_cons.1 h).2 hi hj]
theorem Y4i {s : St} (hr : Rel c s) : ∀ {rs : List (Ty × Lvl)} {vars : List ResultVar}, (vars.map resTmp).Nodup -> (resB s.cs s.bs rs vars).Nodup
 | [], vars, _ => by simp [resB]
 | p :: ps, [], _ => by simp [resB]
 | p :: ps, v :: vars, hn => by
  simp only [List.map_cons, List.nodup_cons] at hn
  simp only [resB]
  refine List.nodup_append.2 ⟨?_, Y4i hr hn.2, fun a ha b hb e => ?_⟩
  ·obtain ⟨t, fr⟩ := p
   cases fr with
   | dp => exact Y20 (fun l => hr.nodup _ _) (fun l l' b h1 h2 => by have := (hr.disj _ _ _ _ _ h1 h2).2; omega) _ _
   | sh => exact Y20 (F := fun l => outB s.cs s.bs (resTmp v) (l + 1)) (fun l => (hr.nodup _ _).filter _) (fun l l' b h1 h2 => by have := (hr.disj _ _ _ _ _ (List.mem_filter.1 h1).1 (List.mem_filter.1 h2).1).2; omega) _ _
   | ro => exact List.nodup_nil
   | pn _ => exact List.nodup_nil
  ·subst e
   obtain ⟨l, hl⟩ := Y7z ha
   obtain ⟨i, p', v', l', _, h2, _, h4⟩ := Y2v hb
   have := (hr.disj _ _ _ _ _ hl h4).1
   exact hn.1 (by rw [this]; exact List.mem_map.2 ⟨v', List.mem_of_getElem? h2, rfl⟩)
theorem Y9a {tmps : Array Value} {w : World} : ∀ {l : List ResultVar} {us : List Value}, RunsTos P tmps w l us -> Sem.run P (l.mapM (rvRun tmps)) w = Result.ok us w
 | [], us, h => by rw [show us = [] from h]; simp
 | v :: l, us, ⟨u, us', e, h1, h2⟩ => by
  have ih := Y9a h2
  unfold RunsTo at h1
  subst e
  simp only [List.mapM_cons, Sem.run_bind, Sem.run_pure, Result.andThen_ok, ih, h1]
def outVal : List Value -> Value
 | [v] => v
 | vs => .tuple vs.toArray
theorem Y60 {fn : Func} {tmps : Array Value} {w : World} {l : List Value} (h : RunsTos P tmps w fn.results.toList l) : Sem.run P (results fn tmps) w = Result.ok (outVal l) w := by
 have h1 := Y9a h
 unfold results
 rw [Array.mapM_eq_mapM_toList]
 simp only [Sem.run_bind, Sem.run_map]
 erw [h1]
 simp only [Result.andThen_ok]
 cases l with
 | nil => simp [outVal]
 | cons x l => cases l with
  | nil => simp [outVal]
  | cons y l => simp [outVal]
theorem Ydj {R : Type} {KR : List (Σ t : Ty, t.D) -> Option R} {rr : R} {sig : FuncId -> Option Sig} {caps : FuncId -> List Ty} {orc : Orc} (hT : TabOk P T) (hO : OrcOk P sig orc) (hm : P.follows .mixedOrders = true) {dr : Array Oper -> Env -> (Env -> Option R) -> Option R} (hdraw : DrawHyp (R := R) T sig caps orc dr) {fuel : Nat} {ann : Nat -> Option (List Nat)} {f : FuncId} {fn : Func} {code : Code} (hf : P.funcs[f]? = some fn) (hb : fn.body = some code) {sg : Sig} {args : List RV} {res : List (Σ t : Ty, t.D)}
  (hmu : sg.muts = false) (hU : ∀ xs, KR xs = some rr -> xs = res) (h : evFn T sig caps orc dr fuel ann sg fn code args KR = some rr) : FnSpec P f sg.results args res := by
 intro S w vals hargs
 unfold evFn at h
 split at h
 ·rename_i as has
  unfold entryAVs at has
  rw [hmu] at has
  simp only at has
  split at h
  ·rename_i hc
   obtain ⟨hle, hnd, _⟩ := hc
   have hen := Yds hargs has hle
   refine calls_of_wp hf hb ?_
   refine Y55 hT hO hm hdraw (c := cx0 S w) (N := fn.ntmps) (D := []) (K := endK T sg fn (keepArgs sg args) KR) code hen (by simp; omega) rfl (fun e env' a' w' hK hr' hl' hd' => ?_) h
   have fin : (match resN T (endPull sg fn env') sg.results fn.results.toList with | some xs => (match mutRes sg (keepArgs sg args) env' xs with | some ys => KR ys | none => none) | none => none) = some rr -> (a'.defers = [] /\ ∃ v, (results fn a'.tmps).run P w' = .ok v w' /\ (fun (e : Ending) (w' : World) => ∃ chs bs, e = .returned (resVal sg.results chs) /\ Below w.heap.size w w' /\ ResRel S w.heap.size w' bs sg.results res chs bs /\ bs.Nodup /\ ∀ b ∈ bs, w.heap.size <= b) (.returned v) w') := by
    intro hK
    have hres : resN T (endPull sg fn env') sg.results fn.results.toList = some res := by
     cases hx : resN T (endPull sg fn env') sg.results fn.results.toList with
     | none => rw [hx] at hK; simp at hK
     | some xs =>
      rw [hx] at hK
      have : mutRes sg (keepArgs sg args) env' xs = some xs := by unfold mutRes; rw [hmu]
      simp only [this] at hK
      rw [hU xs hK]
    obtain ⟨vs, hR⟩ := hr'
    have hR2 : RP (cx0 S w) (endPull sg fn env') a'.tmps w' noP vs := by
     unfold endPull
     rw [hmu]
     exact hR.pullRes (fun _ => .inl rfl) sg.results fn.results.toList
    obtain ⟨hlen, cs, bs, hrel, hno⟩ := hR2
    let B := resB cs bs sg.results fn.results.toList
    have hB : ∀ b ∈ B, ∃ r l, b ∈ bs r l := fun b hb => by
     obtain ⟨i, p, v, l, _, _, _, h4⟩ := Y2v hb
     exact ⟨_, _, h4⟩
    obtain ⟨chs, m1, m2⟩ := Y6d hT (S := S) (base0 := w.heap.size) hlen hrel (fun b hb => hb.imp id (·.1)) hB hres (fun i p v h1 h2 l b hb hnb hbB => by
     obtain ⟨i', p', v', l', k1, k2, k3, k4⟩ := Y2v hbB
     have hdd := (hrel.disj _ _ _ _ _ hb k4).1
     have : i = i' := Y56 hnd (x := resTmp v) (by rw [List.getElem?_map, h2]; rfl) (by rw [List.getElem?_map, k2, hdd]; rfl)
     subst this
     rw [h1] at k1
     simp only [Option.some.injEq] at k1
     subst k1
     rw [h2] at k2
     obtain rfl := Option.some.inj k2
     exact hnb k3)
    refine ⟨hd', _, Y60 m2, chs, B, rfl, hrel.below, m1, Y4i hrel hnd, fun b hb => ?_⟩
    ·obtain ⟨r, l, h1⟩ := hB b hb
     exact (hrel.own _ _ _ h1).1.1
   cases e with
   | ret => exact fin hK
   | normal => exact fin hK
   | _ => simp [endK] at hK
  ·simp at h
 ·simp at h
end
end Go.FP

namespace Go.FP
open Go.RowKit
def BoxSig.fix (b : BoxSig) : List Bool := b.lv.map Slot.isFx
theorem Yc4 : ∀ (lv : List Slot) (l : Nat), nthB (lv.map Slot.isFx) l = true -> (slotAt lv l).isFx = true /\ l < lv.length
 | [], l, h => by simp [nthB] at h
 | s :: lv, 0, h => ⟨by simpa [nthB, slotAt] using h, by simp⟩
 | s :: lv, l + 1, h => by
  obtain ⟨h1, h2⟩ := Yc4 lv l (by simpa [nthB] using h)
  exact ⟨by simpa [slotAt] using h1, by simp only [List.length_cons]; omega⟩
theorem Yc5 : ∀ (lv : List Slot) (l : Nat), (slotAt lv l).isFx = true -> nthB (lv.map Slot.isFx) l = true
 | [], l, h => by simp [slotAt, Slot.isFx] at h
 | s :: lv, 0, h => by simpa [nthB, slotAt] using h
 | s :: lv, l + 1, h => by simpa [nthB, slotAt] using Yc5 lv l (by simpa [slotAt] using h)
def paramBox (b : BoxSig) : RV -> Option AV
 | .ptr t x => some (.con (.box ⟨b.id, true, b.fix⟩) (leaves t x b.md 0))
 | _ => none
def RCap.cap (k : Nat) : RCap -> Cap
 | .ro x => .ro x
 | .pin => .path k 0
 | .self => .self
def paramAVX (b : BoxSig) : RV -> Option AV
 | .fptr f caps => some (.fptr f (caps.map (RCap.cap b.k)))
 | v => paramAV v
def paramAVsY (b : BoxSig) : List RV -> Option (List AV)
 | [] => some []
 | v :: r => match paramAVX b v, paramAVsY b r with
  | some a, some as => some (a :: as)
  | _, _ => none
def paramAVsX (b : BoxSig) : Nat -> List RV -> Option (List AV)
 | _, [] => none
 | 0, v :: r => match paramBox b v, paramAVsY b r with
  | some a, some as => some (a :: as)
  | _, _ => none
 | k + 1, v :: r => match paramAVX b v, paramAVsX b k r with
  | some a, some as => some (a :: as)
  | _, _ => none
def boxEnd (b : BoxSig) : Nat -> List Leaf -> Bool
 | _, [] => true
 | n, l :: ls => (l.m.settled && (match l.t with
  | .slice _ _ => (match slotAt b.lv n with
   | .dp => l.m == .at_ .dp
   | .sh => l.m == .at_ .sh
   | _ => true)
  | _ => true)) && boxEnd b (n + 1) ls
def boxVal (env : Env) (b : BoxSig) (t : Ty) : Option t.D := match get env b.k with
 | .con (.box e) ls => if (e.id = b.id /\ e.pin = true /\ e.fix = b.fix) /\ boxEnd b 0 ls = true then match asm t ls with
   | some (y, []) => some y
   | _ => none
  else none
 | _ => none
section
variable {R : Type} (T : Tab) (sig : FuncId -> Option Sig) (caps : FuncId -> List Ty) (orc : Orc)
def endB (sg : Sig) (b : BoxSig) (fn : Func) (t : Ty) (K : List (Σ t : Ty, t.D) -> Option R) : Exit -> Env -> Option R := fun e env =>
 match e with
 | .ret | .normal => match resN T env sg.results fn.results.toList with
  | some xs => match boxVal env b t with
   | some y => K (⟨t, y⟩ :: xs)
   | none => none
  | none => none
 | _ => none
def evFnB (dr : Array Oper -> Env -> (Env -> Option R) -> Option R) (fuel : Nat) (ann : Nat -> Option (List Nat)) (sg : Sig) (b : BoxSig) (fn : Func) (c : Code) (args : List RV) (K : List (Σ t : Ty, t.D) -> Option R) : Option R :=
 match paramAVsX b b.k args, nthL args b.k with
 | some as, some (.ptr t x) => if (as.length <= fn.ntmps /\ (b.k :: fn.results.toList.map resTmp).Nodup) /\ b.lv.length <= t.sz then evCode T sig caps orc dr fuel ann 0 c (as ++ List.replicate (fn.ntmps - as.length) .skip) (endB T sg b fn t K) else none
 | _, _ => none
end
def cxB (S : Nat -> Prop) (base : Nat) (w : World) (B : Nat) (ch : List Value) (bds : List (List Nat)) : Cx :=
 ⟨S, base, w, fun _ => default, fun k => k < w.heap.size /\ k ∉ B :: bds.flatten, .pointer (some ⟨B, 0, none⟩), fun l => ch.getD l default⟩
def ArgOkX (k : Nat) (pb : Value) (S : Nat -> Prop) (w : World) (c : Cx) (av : AV) (v : Value) (cells : List Value) : Prop :=
 ∀ (s : St) (r : Nat), s.w = w -> (∀ b, S b -> RoS c s b) -> (∀ l, s.bs r l = []) -> s.cs r = cells -> PtrRel s k 0 pb -> AVRel c s r av v /\ av.refs = [] /\ ∀ q ∈ av.ptrs, q = k
theorem Y9b {S : Nat -> Prop} {w : World} {c : Cx} {k : Nat} {pb v : Value} {s : St} (hw : s.w = w) (hS : ∀ b, S b -> RoS c s b) (hp : PtrRel s k 0 pb) : ∀ {rcs : List RCap} {us : List Value}, RCapRels S w pb v rcs us -> CapRels c s v (rcs.map (RCap.cap k)) us
 | [], us, h => h
 | rc :: rcs, us, ⟨u, us', e, h1, h2⟩ => by
  refine ⟨u, us', e, ?_, Y9b hw hS hp h2⟩
  cases rc with
  | ro x => exact PtrV.move (fun b hb _ => ⟨hS b hb, by rw [hw]⟩) h1
  | pin => rw [show u = pb from h1]; exact hp
  | self => exact h1
theorem Y61 {k : Nat} : ∀ {rcs : List RCap} {q : Nat}, q ∈ capRoots (rcs.map (RCap.cap k)) -> q = k
 | [], q, h => by simp [capRoots] at h
 | rc :: rcs, q, h => by
  simp only [List.map_cons, capRoots, List.mem_append] at h
  rcases h with h | h
  ·cases rc <;> simp [RCap.cap, Cap.roots] at h
   exact h
  ·exact Y61 h
theorem Y80 {S : Nat -> Prop} {w : World} {c : Cx} {b : BoxSig} {pb : Value} {rv : RV} {v : Value} {av : AV} (h : RVRelX S w pb rv v) (hp : paramAVX b rv = some av) : ∃ cells, ArgOkX b.k pb S w c av v cells := by
 by_cases hf : ∃ f caps, rv = .fptr f caps
 ·obtain ⟨f, caps, rfl⟩ := hf
  simp only [paramAVX, Option.some.injEq] at hp
  subst hp
  obtain ⟨B, us, rfl, h2, h3, h4, h5⟩ := h
  refine ⟨[], fun s r hw hS hb hc hpr => ⟨⟨hb, us, B, rfl, hS _ h2, by rw [hw]; exact h3, by rw [hw]; exact h4, Y9b hw hS hpr h5⟩, rfl, fun q hq => Y61 hq⟩⟩
 ·have h' : RVRel S w rv v /\ paramAV rv = some av := by
   cases rv with
   | fptr f caps => exact absurd ⟨f, caps, rfl⟩ hf
   | _ => exact ⟨h, hp⟩
  obtain ⟨cells, h1⟩ := Y97 (c := c) h'.1 h'.2
  exact ⟨cells, fun s r hw hS hb hc _ => ⟨(h1 s r hw hS hb hc).1, (h1 s r hw hS hb hc).2.1, by rw [(h1 s r hw hS hb hc).2.2]; simp⟩⟩
theorem Y72 {S : Nat -> Prop} {w : World} {c : Cx} {b : BoxSig} {pb : Value} : ∀ {args : List RV} {vals : List Value} {as : List AV}, RVRelsY S w pb args vals -> paramAVsY b args = some as -> vals.length = as.length /\ ∃ cs : Nat -> List Value, ∀ r, r < as.length -> ArgOkX b.k pb S w c (get as r) (vals.getD r undef) (cs r)
 | [], vals, as, h, hp => by
  simp only [paramAVsY, Option.some.injEq] at hp
  subst hp
  exact ⟨by rw [show vals = [] from h]; rfl, fun _ => [], fun r hr => by simp at hr⟩
 | rv :: args, vals, as, ⟨v, vals', e, h1, h2⟩, hp => by
  simp only [paramAVsY] at hp
  cases ha : paramAVX b rv with
  | none => rw [ha] at hp; simp at hp
  | some av =>
   cases has : paramAVsY b args with
   | none => rw [ha, has] at hp; simp at hp
   | some as' =>
    rw [ha, has] at hp
    simp only [Option.some.injEq] at hp
    subst hp; subst e
    obtain ⟨k1, cs, k2⟩ := Y72 (c := c) h2 has
    obtain ⟨cells, k3⟩ := Y80 (c := c) h1 ha
    refine ⟨by simp [k1], fun r => match r with | 0 => cells | r + 1 => cs r, fun r hr => ?_⟩
    cases r with
    | zero => exact k3
    | succ r => exact k2 r (by simpa using hr)
theorem Y73 {S : Nat -> Prop} {w : World} {c : Cx} {b : BoxSig} {pb : Value} : ∀ {k : Nat} {args : List RV} {vals : List Value} {as : List AV}, RVRelsX S w pb k args vals -> paramAVsX b k args = some as -> vals.length = as.length /\ k < as.length /\ (∃ t x, nthL args k = some (.ptr t x) /\ get as k = .con (.box ⟨b.id, true, b.fix⟩) (leaves t x b.md 0)) /\ ∃ cs : Nat -> List Value, ∀ r, r < as.length -> r ≠ k -> ArgOkX b.k pb S w c (get as r) (vals.getD r undef) (cs r)
 | k, [], vals, as, h, hp => by cases k <;> simp [paramAVsX] at hp
 | 0, rv :: args, vals, as, ⟨v, vals', e, h2⟩, hp => by
  simp only [paramAVsX] at hp
  cases ha : paramBox b rv with
  | none => rw [ha] at hp; simp at hp
  | some av =>
   cases has : paramAVsY b args with
   | none => rw [ha, has] at hp; simp at hp
   | some as' =>
    rw [ha, has] at hp
    simp only [Option.some.injEq] at hp
    subst hp; subst e
    obtain ⟨k1, cs, k2⟩ := Y72 (c := c) h2 has
    refine ⟨by simp [k1], by simp, ?_, fun r => match r with | 0 => [] | r + 1 => cs r, fun r hr hne => ?_⟩
    ·cases rv with
     | ptr t x =>
      simp only [paramBox, Option.some.injEq] at ha
      subst ha
      exact ⟨t, x, rfl, rfl⟩
     | val _ _ => simp [paramBox] at ha
     | clo _ _ => simp [paramBox] at ha
     | fptr _ _ => simp [paramBox] at ha
    ·cases r with
     | zero => exact absurd rfl hne
     | succ r => exact k2 r (by simpa using hr)
 | k + 1, rv :: args, vals, as, ⟨v, vals', e, h1, h2⟩, hp => by
  simp only [paramAVsX] at hp
  cases ha : paramAVX b rv with
  | none => rw [ha] at hp; simp at hp
  | some av =>
   cases has : paramAVsX b k args with
   | none => rw [ha, has] at hp; simp at hp
   | some as' =>
    rw [ha, has] at hp
    simp only [Option.some.injEq] at hp
    subst hp; subst e
    obtain ⟨k1, k3, k4, cs, k2⟩ := Y73 (c := c) h2 has
    obtain ⟨cells, k5⟩ := Y80 (c := c) h1 ha
    refine ⟨by simp [k1], by simpa using k3, by simpa [nthL, get] using k4, fun r => match r with | 0 => cells | r + 1 => cs r, fun r hr hne => ?_⟩
    cases r with
    | zero => exact k5
    | succ r => exact k2 r (by simpa using hr) (fun e => hne (by rw [e]))
end Go.FP

namespace Go.FP
open Go.RowKit
theorem Ydr {S : Nat -> Prop} {w : World} {b : BoxSig} {t : Ty} {x : t.D} {B : Nat} {ch : List Value} {bds : List (List Nat)} {base : Nat} {args : List RV} {vals : List Value} {as : List AV} (hvk : vals[b.k]? = some (.pointer (some ⟨B, 0, none⟩))) (hBh : w.heap[B]? = some (.cells ch.toArray b.id (0, 0)))
  (hL : LvsRel S w (fun _ => True) (leaves t x b.md 0) ch bds) (hnd : (B :: bds.flatten).Nodup) (hb : ∀ k ∈ B :: bds.flatten, base <= k) (hbase : base <= w.heap.size) (h : RVRelsX S w (.pointer (some ⟨B, 0, none⟩)) b.k args vals) (hS : ∀ k, S k -> k ∉ B :: bds.flatten) (hp : paramAVsX b b.k args = some as) (ht : nthL args b.k = some (.ptr t x)) (hlv : b.lv.length <= t.sz) {n : Nat} (hn : as.length <= n) :
  RE (cxB S base w B ch bds) (as ++ List.replicate (n - as.length) .skip) (vals.toArray ++ Array.replicate (n - vals.toArray.size) undef) w := by
 obtain ⟨k1, k3, ⟨t', x', q1, q2⟩, cs0, k2⟩ := Y73 (c := cxB S base w B ch bds) h hp
 rw [ht] at q1
 simp only [Option.some.injEq, RV.ptr.injEq] at q1
 obtain ⟨rfl, q1⟩ := q1
 have q1 : x = x' := eq_of_heq q1
 subst q1
 obtain ⟨l1, l2, l3⟩ := hL
 obtain ⟨hBn, hnd2⟩ := List.nodup_cons.1 hnd
 obtain ⟨d1, d2⟩ := Y19 hnd2
 have hsz : vals.toArray.size = as.length := by simpa using k1
 let env : Env := as ++ List.replicate (n - as.length) .skip
 let tmps : Array Value := vals.toArray ++ Array.replicate (n - vals.toArray.size) undef
 have hel : env.length = n := by simp [env]; omega
 have htl : tmps.size = n := by simp [tmps]; omega
 let cs : Nat -> List Value := fun r => if r = b.k then ch else cs0 r
 let bs : Nat -> Nat -> List Nat := fun r l => if r = b.k then (match l with | 0 => [B] | l + 1 => bds.getD l []) else []
 let s : St := SS env noP tmps noV w cs bs
 have hbs : ∀ r l k, k ∈ bs r l -> r = b.k /\ k ∈ B :: bds.flatten /\ (k ∈ (match l with | 0 => [B] | l + 1 => bds.getD l [])) := fun r l k hk => by
  simp only [bs] at hk
  split at hk
  ·rename_i hr
   refine ⟨hr, ?_, hk⟩
   cases l with
   | zero => exact List.mem_cons.2 (.inl (by simpa using hk))
   | succ l => exact List.mem_cons_of_mem _ (Yn hk)
  ·simp at hk
 have hbsk : ∀ l, bs b.k l = (match l with | 0 => [B] | l + 1 => bds.getD l []) := fun l => if_pos rfl
 have hbso : ∀ r, r ≠ b.k -> ∀ l, bs r l = [] := fun r hr l => if_neg hr
 have hRoS : ∀ k, S k -> RoS (cxB S base w B ch bds) s k := fun k hk => ⟨fun r l hm => hS k hk (hbs r l k hm).2.1, .inl hk⟩
 have hget : ∀ r, r < as.length -> ovl env noP r = get as r /\ ovlT tmps noV r = vals.getD r undef := fun r hr => by
  refine ⟨by rw [Y8 (by omega)]; exact Y3a _ _ _ hr, ?_⟩
  show (if r < tmps.size then tmps.getD r undef else _) = _
  rw [if_pos (by omega)]
  have : r < vals.length := by omega
  simp [tmps, this, Array.getD_eq_getD_getElem?, Array.getElem?_append, List.getD_eq_getElem?_getD]
 have hpk : PtrRel s b.k 0 (.pointer (some ⟨B, 0, none⟩)) := by
  refine ⟨_, _, B, (hget b.k k3).1.trans q2, (hget b.k k3).2.trans ?_, rfl⟩
  rw [List.getD_eq_getElem?_getD, hvk]; rfl
 have hleaf : ∀ (l : Nat) (lf : Leaf) (u : Value), (leaves t x b.md 0)[l]? = some lf -> ch[l]? = some u -> ∃ m, lf.m = .at_ m /\ (∀ h, m ≠ .pn h) /\ Rep S w lf.t m [u] lf.x (bds.getD l []) := by
  intro l lf u hl hu
  obtain ⟨m, hm, hrep⟩ := l3 l lf u trivial hl hu
  refine ⟨m, hm, fun h' e => ?_, hrep⟩
  subst e
  rcases Y1w b.md t x 0 l lf hl with ⟨_, h2⟩ | ⟨_, h2⟩
  ·rw [hm] at h2; cases h2
  ·rw [hm] at h2; unfold BoxSig.md at h2; cases hq : slotAt b.lv (0 + l) <;> rw [hq] at h2 <;> cases h2
 have hav : ∀ r, AVRel (cxB S base w B ch bds) s r (ovl env noP r) (ovlT tmps noV r) /\ (ovl env noP r).refs = [] /\ ∀ q ∈ (ovl env noP r).ptrs, q = b.k := fun r => by
  by_cases h1 : r < as.length
  ·rw [(hget r h1).1, (hget r h1).2]
   by_cases hr : r = b.k
   ·subst hr
    rw [q2]
    have hv : vals.getD b.k undef = .pointer (some ⟨B, 0, none⟩) := by rw [List.getD_eq_getElem?_getD, hvk]; rfl
    rw [hv]
    have ecs : s.cs b.k = ch := if_pos rfl
    have hset : ∀ lf ∈ leaves t x b.md 0, lf.m.settled = true := by
     intro lf hlf
     obtain ⟨l, hl⟩ := List.getElem?_of_mem hlf
     have hlt : l < ch.length := by rw [<- l1]; exact (List.getElem?_eq_some_iff.1 hl).1
     obtain ⟨m, hm, _⟩ := l3 l lf ch[l] trivial hl (List.getElem?_eq_getElem hlt)
     rw [hm]; rfl
    have hr0 := Yd (k := .box ⟨b.id, true, b.fix⟩) hset
    refine ⟨⟨⟨B, rfl, by rw [ecs]; exact hBh, hbsk 0, fun _ => rfl, fun l hl => ?_⟩, by rw [ecs]; exact l1, fun l hl => ?_, fun l lf u hl hu => ?_⟩, hr0.1, by rw [hr0.2]; simp⟩
    ·rw [ecs]
     obtain ⟨_, h2⟩ := Yc4 b.lv l hl
     have hlt : l < ch.length := by
      rw [<- l1]
      have := congrArg List.length (Yu t x b.md 0)
      rw [List.length_map, Y1o] at this
      omega
     show ch[l]? = some (ch.getD l default)
     rw [List.getD_eq_getElem?_getD, List.getElem?_eq_getElem hlt]; rfl
    ·show bs b.k (l + 1) = []
     refine (hbsk (l + 1)).trans ?_
     show bds.getD l [] = []
     rw [List.getD_eq_getElem?_getD, List.getElem?_eq_none (by omega)]; rfl
    ·rw [Y1] at hl
     rw [ecs] at hu
     obtain ⟨m, e1, e2, e3⟩ := hleaf l lf u hl hu
     obtain ⟨t1, x1, m1⟩ := lf
     simp only at e1 e3
     subst e1
     refine LeafRel.of_rep (by cases m <;> first | trivial | exact absurd rfl (e2 _)) ?_
     have h9 : bs b.k (l + 1) = bds.getD l [] := hbsk (l + 1)
     have h8 : Rep (RoS (cxB S base w B ch bds) s) w t1 m [u] x1 (bds.getD l []) := Rep.move (fun k hk _ => ⟨hRoS k hk, rfl⟩) (fun _ _ => rfl) e3
     rw [<- h9] at h8
     exact h8
   ·exact k2 r h1 hr s r rfl hRoS (fun l => hbso r hr l) (if_neg hr) hpk
  ·by_cases h2 : r < n
   ·have e1 : ovl env noP r = .skip := by
     rw [Y8 (by omega)]
     show get (as ++ _) r = _
     rw [Y3b _ _ _ (by omega), Y7j _ _ _ (by omega)]
    have e2 : ovlT tmps noV r = undef := by
     show (if r < tmps.size then tmps.getD r undef else _) = _
     rw [if_pos (by omega)]
     simp only [tmps, Array.getD_eq_getD_getElem?]
     rw [Array.getElem?_append_right (by omega), Array.getElem?_replicate]
     split <;> rfl
    rw [e1, e2]
    exact ⟨⟨rfl, fun l => hbso r (by omega) l⟩, rfl, by simp [AV.ptrs]⟩
   ·have e1 : ovl env noP r = .undef := by rw [Yo (by omega)]; rfl
    rw [e1]
    exact ⟨fun l => hbso r (by omega) l, rfl, by simp [AV.ptrs]⟩
 have hlt : ∀ k ∈ B :: bds.flatten, k < w.heap.size := by
  intro k hk
  rcases List.mem_cons.1 hk with rfl | hk
  ·exact (Array.getElem?_eq_some_iff.1 hBh).1
  ·obtain ⟨bl, hbl, hkb⟩ := List.mem_flatten.1 hk
   obtain ⟨l, hl⟩ := List.getElem?_of_mem hbl
   have hll : l < bds.length := (List.getElem?_eq_some_iff.1 hl).1
   obtain ⟨m, _, hrep⟩ := l3 l _ _ trivial (List.getElem?_eq_getElem (show l < (leaves t x b.md 0).length by omega)) (List.getElem?_eq_getElem (show l < ch.length by omega))
   refine Rep.lt hrep k ?_
   rw [List.getD_eq_getElem?_getD, hl]; exact hkb
 refine ⟨noV, by rw [hel, htl], cs, bs, ⟨Below.refl _ _, hbase, fun r l k hk => ?_, fun r l r' l' k hk hk' => ?_, fun r l => ?_, fun r => (hav r).1, fun k hk => ⟨hk.1, fun r l hm => hk.2 (hbs r l k hm).2.1, rfl⟩⟩, fun r => ?_⟩
 ·obtain ⟨_, h2, _⟩ := hbs r l k hk
  exact ⟨⟨hb k h2, fun hf => hf.2 h2⟩, hlt k h2⟩
 ·obtain ⟨rfl, _, h1⟩ := hbs r l k hk
  obtain ⟨rfl, _, h2⟩ := hbs r' l' k hk'
  refine ⟨rfl, ?_⟩
  cases l with
  | zero => cases l' with
   | zero => rfl
   | succ l' =>
    obtain rfl : k = B := by simpa using h1
    exact absurd (Yn h2) hBn
  | succ l => cases l' with
   | zero =>
    obtain rfl : k = B := by simpa using h2
    exact absurd (Yn h1) hBn
   | succ l' => rw [d2 l l' k h1 h2]
 ·by_cases hr : r = b.k
  ·subst hr
   show (bs b.k l).Nodup
   cases l with
   | zero => exact (hbsk 0).symm ▸ (by simp : ([B] : List Nat).Nodup)
   | succ l => exact (hbsk (l + 1)).symm ▸ d1 l
  ·exact Eq.mpr (congrArg List.Nodup (hbso r hr l)) List.nodup_nil
 ·rw [(hav r).2.1]
  exact ⟨by simp, fun q hq => by rw [(hav r).2.2 q hq]; show b.k < env.length; omega⟩
end Go.FP
