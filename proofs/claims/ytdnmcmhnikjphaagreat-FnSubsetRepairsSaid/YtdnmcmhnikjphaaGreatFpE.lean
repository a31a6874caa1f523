/- How Go values lie in memory, and an evaluator of code with its soundness (part 5 of 7). Conditions: those that stand in each theorem; nothing is assumed of any program. -/
import Derived.Test.YtdnmcmhnikjphaaGreatFpD

set_option linter.unusedVariables false
set_option linter.unusedSimpArgs false
set_option linter.unnecessarySimpa false

namespace Go.FP
open Go.RowKit
variable {R : Type} {P : Program} {S : Nat -> Prop} {w : World} {env : Env} {tmps : Array Value} {vs : Nat -> Value} {cs : Nat -> List Value} {bs : Nat -> Nat -> List Nat} {c : Cx} {s : St} {Q : Exit -> Act -> World -> Prop} {next : Act -> World -> Prop} {caps : FuncId -> List Ty} {sig : FuncId -> Option Sig} {orc : Orc} {ls : List Leaf} {x : Operand} {t : Ty} {o : Oper} {a : Act} {v : Value} {d : Nat} {f : FuncId} {e : TypeId} {cells : List Value} {ann : Nat -> Option (List Nat)} {n : Nat} {u : Value} {rs : List (Ty × Lvl)} {k : Kind} {av : AV} {sg : Sig} {lv : Lvl} {fuel : Nat} {as : List AV} {id : TypeId} {fn : Func} {code : Code}
section
variable {c : Cx} {env : Env} {tmps : Array Value} {w : World} {ps : Nat -> AV} {vs : Nat -> Value} {cs : Nat -> List Value} {bs : Nat -> Nat -> List Nat} {caps : FuncId -> List Ty} {S : Nat -> Prop}
theorem Y8l : ∀ {avs : List AV} {us : List Value} {k : Nat} {av : AV}, ValCs c s avs us -> nthL avs k = some av -> ∃ u cells, us[k]? = some u /\ ValC c s av u cells
 | [], us, k, av, _, h => by simp [nthL] at h
 | v :: avs, us, 0, av, ⟨u, us', e, ⟨cells, hv⟩, _⟩, h => by
  simp [nthL] at h;subst h; subst e;exact ⟨u, cells, rfl, hv⟩
 | v :: avs, us, k + 1, av, ⟨u, us', e, _, h2⟩, h => by
  simp [nthL] at h;obtain ⟨u2, cells, h3, h4⟩ := Y8l h2 h;subst e;exact ⟨u2, cells, by grind⟩
theorem Y9w {t : Ty} {r : Nat} : ∀ {ptys : List PTy} {avs : List AV} {rvs : List RV} {k : Nat}, RVsX caps env r ptys avs = some rvs -> nthL ptys k = some (.ptr t) -> nthL avs k = some (.path r 0) -> ∃ x, nthL rvs k = some (.ptr t x) /\ ptrOf env t r 0 = some x
 | [], avs, rvs, k, _, h, _ => by simp [nthL] at h
 | p :: ptys, [], rvs, k, _, _, h => by simp [nthL] at h
 | p :: ptys, v :: avs, rvs, k, ho, h1, h2 => by
  simp [RVsX] at ho;cases hx : RVofX caps env r p v with
  | none => grind
  | some x =>
   cases hxs : RVsX caps env r ptys avs with
   | none => simp_all
   | some xs =>
    rw [hx, hxs] at ho;simp at ho;subst ho;cases k with
    | zero =>
     simp [nthL] at h1 h2;subst h1; subst h2;simp [RVofX, RVof] at hx;cases hp : ptrOf env t r 0 with
     | none => grind
     | some y =>
      rw [hp] at hx;simp at hx;subst hx;exact ⟨y, rfl, rfl⟩
    | succ k => exact Y9w (ptys := ptys) (avs := avs) (rvs := xs) (k := k) hxs h1 h2
theorem Y6m {r : Nat} {v : AV} (h : apartR r v = true) : (∀ q ∈ v.refs, q.1 ≠ r) /\ ∀ q ∈ v.ptrs, q ≠ r := by
 simp only [apartR, X9, Xa, X1h, beq_eq_false_iff_ne] at h;exact h
theorem Y6n {r : Nat} {v : AV} (h : apartX r v = true) : (∃ f cs, v = .fptr f cs) \/ apartR r v = true := by
 unfold apartX at h;split at h
 ·grind
 ·exact .inr h
theorem RVRelX.of {pb : Value} {x : RV} (h : RVRel S w x v) : RVRelX S w pb x v := by
 cases x with
 | fptr f cs => exact h.elim
 | _ => exact h
theorem Y9x {p : PTy} {cs : List Cap} : RVof caps env p (.fptr f cs) = none := by
 cases p <;> rfl
theorem Y7p (h : Rel c (SS env ps tmps vs w cs bs)) (h1 : ∀ b, RoS c (SS env ps tmps vs w cs bs) b -> S b) {r B : Nat} (htm : (SS env ps tmps vs w cs bs).tm r = .pointer (some ⟨B, 0, none⟩)) : ∀ {ts : List Ty} {cps : List Cap} {us : List Value} {rcs : List RCap}, CapRels c (SS env ps tmps vs w cs bs) v cps us -> capRVs env r ts cps = some rcs ->
  (∀ q ∈ capRoots cps, q ≠ r -> ∀ l, ∀ b ∈ bs q l, S b) -> RCapRels S w (.pointer (some ⟨B, 0, none⟩)) v rcs us
 | [], [], us, rcs, hc, ho, _ => by simp [capRVs] at ho; subst ho; exact hc
 | [], _ :: _, us, rcs, hc, ho, _ => by simp [capRVs] at ho
 | _ :: _, [], us, rcs, hc, ho, _ => by simp [capRVs] at ho
 | t :: ts, cp :: cps, us, rcs, ⟨u, us', e, hc1, hc2⟩, ho, h3 => by
  simp [capRVs] at ho;cases hx : capRV env r t cp with
  | none => simp_all
  | some x =>
   cases hxs : capRVs env r ts cps with
   | none => grind
   | some xs =>
    rw [hx, hxs] at ho;simp at ho;subst ho;refine ⟨u, us', e, ?_, Y7p h h1 htm hc2 hxs (fun q hq => h3 q (by simp [capRoots]; exact .inr hq))⟩;cases cp with
    | path r' off =>
     simp [capRV] at hx;by_cases hr : r' = r
     ·rw [X4 hr] at hx;split at hx
      ·rename_i hoff;simp at hx;subst hx; subst hr; subst hoff;obtain ⟨e1, ls1, B1, _, k2, k3⟩ := hc1;rw [htm] at k2;have : B = B1 := by simpa using k2
       subst this;exact k3
      ·simp at hx
     ·rw [X2 hr] at hx;split at hx
      ·rename_i y hy;simp at hx;subst hx;exact Y5i h hy hc1 h1 (h3 r' (by simp [capRoots, Cap.roots]) hr)
      ·simp at hx
    | ro y =>
     simp [capRV] at hx;subst hx;exact PtrV.move (fun b hb _ => ⟨h1 b hb, rfl⟩) hc1
    | self =>
     simp [capRV] at hx;subst hx;exact hc1
theorem Y8m (h : Rel c (SS env ps tmps vs w cs bs)) (h1 : ∀ b, RoS c (SS env ps tmps vs w cs bs) b -> S b) {r B : Nat} (htm : (SS env ps tmps vs w cs bs).tm r = .pointer (some ⟨B, 0, none⟩)) {p : PTy} {x : RV} (hv : ValC c (SS env ps tmps vs w cs bs) av u cells) (ho : RVofX caps env r p av = some x) (hap : apartX r av = true)
  (h2 : ∀ q ∈ av.refs, ∀ b ∈ bs q.1 (q.2 + 1), S b) (h3 : ∀ q ∈ av.ptrs, q ≠ r -> ∀ l, ∀ b ∈ bs q l, S b) : RVRelX S w (.pointer (some ⟨B, 0, none⟩)) x u := by
 by_cases hps : p = .self
 ·subst hps;simp [RVofX] at ho;split at ho
  ·rename_i f cps;split at ho
   ·rename_i xs hxs;simp at ho;subst ho;obtain ⟨us, B1, k1, k2, k3, k4, k5⟩ := hv;exact ⟨B1, us, k1, h1 _ k2, k3, k4, Y7p h h1 htm k5 hxs h3⟩
   ·simp at ho
  ·simp at ho
 ·have ho : RVof caps env p av = some x := by
   cases p with
   | self => exact absurd rfl hps
   | _ => exact ho
  rcases Y6n hap with ⟨f, cps, rfl⟩ | hap
  ·rw [Y9x] at ho; simp at ho
  ·exact RVRelX.of (Y9j h hv ho h1 h2 (fun q hq => h3 q hq ((Y6m hap).2 q hq)))
theorem Y9y (h : Rel c (SS env ps tmps vs w cs bs)) (h1 : ∀ b, RoS c (SS env ps tmps vs w cs bs) b -> S b) {r B : Nat} (htm : (SS env ps tmps vs w cs bs).tm r = .pointer (some ⟨B, 0, none⟩)) : ∀ {ptys : List PTy} {avs : List AV} {us : List Value} {rvs : List RV}, ValCs c (SS env ps tmps vs w cs bs) avs us -> RVsX caps env r ptys avs = some rvs -> (∀ v ∈ avs, apartX r v = true) ->
  (∀ v ∈ avs, ∀ q ∈ v.refs, ∀ b ∈ bs q.1 (q.2 + 1), S b) -> (∀ v ∈ avs, ∀ q ∈ v.ptrs, q ≠ r -> ∀ l, ∀ b ∈ bs q l, S b) -> RVRelsY S w (.pointer (some ⟨B, 0, none⟩)) rvs us
 | [], [], us, rvs, hv, ho, _, _, _ => by simp [RVsX] at ho; subst ho; exact hv
 | [], _ :: _, us, rvs, _, ho, _, _, _ => by simp [RVsX] at ho
 | _ :: _, [], us, rvs, _, ho, _, _, _ => by simp [RVsX] at ho
 | p :: ptys, v :: avs, us, rvs, ⟨u, us', e, ⟨cells, hv1⟩, hv2⟩, ho, hap, h2, h3 => by
  simp [RVsX] at ho;cases hx : RVofX caps env r p v with
  | none => rw [hx] at ho; simp at ho
  | some x =>
   cases hxs : RVsX caps env r ptys avs with
   | none => rw [hx, hxs] at ho; simp at ho
   | some xs =>
    rw [hx, hxs] at ho;simp at ho;subst ho;exact ⟨u, us', e, Y8m h h1 htm hv1 hx (hap v Xo) (h2 v Xo) (h3 v Xo), Y9y h h1 htm hv2 hxs (fun v hv => hap v (X3 _ hv)) (fun v hv => h2 v (X3 _ hv)) (fun v hv => h3 v (X3 _ hv))⟩
theorem Y9z (h : Rel c (SS env ps tmps vs w cs bs)) (h1 : ∀ b, RoS c (SS env ps tmps vs w cs bs) b -> S b) {r B : Nat} (htm : (SS env ps tmps vs w cs bs).tm r = .pointer (some ⟨B, 0, none⟩)) : ∀ {k : Nat} {ptys : List PTy} {avs : List AV} {us : List Value} {rvs : List RV}, ValCs c (SS env ps tmps vs w cs bs) avs us -> RVsX caps env r ptys avs = some rvs -> (∃ v, nthL avs k = some v) -> (∀ v ∈ dropAt k avs, apartX r v = true) ->
  (∀ v ∈ dropAt k avs, ∀ q ∈ v.refs, ∀ b ∈ bs q.1 (q.2 + 1), S b) -> (∀ v ∈ dropAt k avs, ∀ q ∈ v.ptrs, q ≠ r -> ∀ l, ∀ b ∈ bs q l, S b) -> RVRelsX S w (.pointer (some ⟨B, 0, none⟩)) k rvs us
 | k, ptys, [], us, rvs, _, _, ⟨v, hv⟩, _, _, _ => by simp [nthL] at hv
 | k, [], v :: avs, us, rvs, _, ho, _, _, _, _ => by simp [RVsX] at ho
 | 0, p :: ptys, v :: avs, us, rvs, ⟨u, us', e, ⟨cells, hv1⟩, hv2⟩, ho, _, hap, h2, h3 => by
  simp [RVsX] at ho;cases hx : RVofX caps env r p v with
  | none => rw [hx] at ho; simp at ho
  | some x =>
   cases hxs : RVsX caps env r ptys avs with
   | none => rw [hx, hxs] at ho; simp at ho
   | some xs =>
    rw [hx, hxs] at ho;simp at ho;subst ho;exact ⟨u, us', e, Y9y h h1 htm hv2 hxs hap h2 h3⟩
 | k + 1, p :: ptys, v :: avs, us, rvs, ⟨u, us', e, ⟨cells, hv1⟩, hv2⟩, ho, ⟨v0, hv0⟩, hap, h2, h3 => by
  simp [RVsX] at ho;cases hx : RVofX caps env r p v with
  | none => rw [hx] at ho; simp at ho
  | some x =>
   cases hxs : RVsX caps env r ptys avs with
   | none => rw [hx, hxs] at ho; simp at ho
   | some xs =>
    rw [hx, hxs] at ho;simp at ho;subst ho;exact ⟨u, us', e, Y8m h h1 htm hv1 hx (hap v (by simp [dropAt])) (h2 v (by simp [dropAt])) (h3 v (by simp [dropAt])), Y9z h h1 htm hv2 hxs ⟨v0, hv0⟩ (fun v hv => hap v (by simp [dropAt, hv])) (fun v hv => h2 v (by simp [dropAt, hv])) (fun v hv => h3 v (by simp [dropAt, hv]))⟩
end
theorem Yay {v : AV} (h : bareAV v = true) : v.refs = [] /\ v.ptrs = [] := by simpa [bareAV] using h
theorem Y37 {α : Type} (f : Nat -> List α) (n l : Nat) : ((List.range n).map f).getD l [] = if l < n then f l else [] := by grind
theorem Y4w {α : Type} {f : Nat -> List α} {b : α} : b ∈ ((List.range n).map f).flatten ↔ ∃ l, l < n /\ b ∈ f l := by grind
theorem Y46 {f : Nat -> List Nat} (h1 : ∀ l, (f l).Nodup) (h2 : ∀ l l' b, b ∈ f l -> b ∈ f l' -> l = l') (n : Nat) : ((List.range n).map f).flatten.Nodup := by
 have := Y2d h1 h2 n 0
 rwa [List.flatMap_def, <- List.range_eq_range'] at this
section
variable {P : Program} {o : Oper} {a : Act} {w : World} {R : Type} {K : Env -> Option R} {rr : R} {next : Act -> World -> Prop} {Q : Exit -> Act -> World -> Prop} {c : Cx} {d : Nat} {env : Env} {caps : FuncId -> List Ty} {orc : Orc}
theorem Yc2 (hlen : env.length = tmps.size) (hrel : Rel c (SS env noP tmps vs w cs bs)) {r : Nat} {e : BoxK} (hr : get env r = .con (.box e) ls) {b : BoxSig} (hid : e.id = b.id) (hfit : boxFits b 0 ls = true) {x : t.D} (has : asm t ls = some (x, [])) :
  ∃ B, tmps.getD r undef = .pointer (some ⟨B, 0, none⟩) /\ bs r 0 = [B] /\ w.heap[B]? = some (.cells (cs r).toArray b.id (0, 0)) /\ ls.length = (cs r).length /\ (∀ l, ls.length <= l -> bs r (l + 1) = []) /\ (∀ l lf u, ls[l]? = some lf -> (cs r)[l]? = some u -> LeafRel c (SS env noP tmps vs w cs bs) r l u lf) /\
   (leaves t x b.md 0).length = ls.length /\
   ∀ S : Nat -> Prop, (∀ k, RoS c (SS env noP tmps vs w cs bs) k -> k < w.heap.size -> S k) -> (∀ l, (slotAt b.lv l).isFx = true -> ∀ k ∈ bs r (l + 1), S k) ->
    LvsRel S w (fun _ => True) (leaves t x b.md 0) (cs r) ((List.range (cs r).length).map fun l => if (slotAt b.lv l).isFx then [] else bs r (l + 1)) := by
 have hrl : r < env.length := Yw hr;have hav := hrel.av r;rw [show (SS env noP tmps vs w cs bs).env r = .con (.box e) ls by show ovl env noP r = _; rw [Y8 hrl]; exact hr] at hav;obtain ⟨⟨B, g1, g2, g3, _⟩, h2, h3, h4⟩ := hav;have g1 : tmps.getD r undef = .pointer (some ⟨B, 0, none⟩) := by rw [<- g1]; exact (X4 (by omega)).symm
 obtain ⟨pre, e1, e2⟩ := Y6b b.md t 0 has;rw [Xf] at e1;subst e1;have hll : (leaves t x b.md 0).length = ls.length := by have := congrArg List.length e2; simpa using this.symm
 refine ⟨B, g1, g3, hid ▸ g2, h2, h3, fun l lf u hl hu => h4 l lf u (by rw [Y1]; exact hl) hu, hll, fun S hS hfx => ⟨by rw [hll]; exact h2, by simp, fun l lf u _ hl hu => ?_⟩⟩;have hlt : l < ls.length := by rw [<- hll]; exact (X6.1 hl).1
 have hd : ls[l].dat = lf.dat := by
  have h5 := congrArg (fun z => z[l]?) e2;simp only [X14, hl, X1 hlt, X1w, X0] at h5;exact h5
 have h5 := h4 l ls[l] u (by rw [Y1]; exact X1 hlt) hu;obtain ⟨hset, hsl⟩ := Y3w hfit (X1 hlt);rw [X13] at hsl;rw [Y37, X4 (show l < (cs r).length by grind)];generalize ls[l] = lo at *;obtain ⟨t1, x1, m1⟩ := lo;obtain ⟨t2, x2, m2⟩ := lf;simp [Leaf.dat] at hd;obtain ⟨rfl, hd⟩ := hd;have hd : x1 = x2 := X33 hd;subst hd;have hold : ∃ lv, m1 = .at_ lv /\ Rep (RoS c (SS env noP tmps vs w cs bs)) w t1 lv [u] x1 (bs r (l + 1)) := by
  cases m1 with
  | at_ lv => exact ⟨lv, rfl, h5.rep⟩
  | bor _ _ _ => simp [Mode.settled] at hset
  | dead => simp [Mode.settled] at hset
 obtain ⟨lv, rfl, hrep⟩ := hold;rcases Y29 b.md t x 0 l _ hl with ⟨hf, hm⟩ | ⟨⟨e0, τ, hs⟩, hm⟩
 ·simp only at hf hm;subst hm;obtain ⟨q1, q2⟩ := Rep.flat (S' := S) (w' := w) (m' := .ro) hf hrep;refine ⟨.ro, rfl, ?_⟩;rw [q1];split <;> exact q2
 ·simp only at hs hm;rw [X13] at hm;have hS' : ∀ k, RoS c (SS env noP tmps vs w cs bs) k -> k < w.heap.size -> S k := hS;cases hsx : (slotAt b.lv l).isFx with
  | true =>
   rw [X4 rfl];refine ⟨.ro, ?_, ?_⟩
   ·rw [hm]; unfold BoxSig.md; cases hq : slotAt b.lv l <;> rw [hq] at hsx <;> first | rfl | cases hsx
   ·exact Rep.roS hrep (fun k hk hl => hS' k hk hl) (hfx l hsx)
  | false =>
   rw [X2 (by simp)];have hmm := (hsl e0 τ hs).resolve_left (by rw [hsx]; simp);refine ⟨lv, ?_, Rep.move (fun k hk hl => ⟨hS' k hk hl, rfl⟩) (fun _ _ => rfl) hrep⟩;rw [hm, <- hmm]
end
section
variable {P : Program} {o : Oper} {a : Act} {w : World} {R : Type} {K : Env -> Option R} {rr : R} {next : Act -> World -> Prop} {Q : Exit -> Act -> World -> Prop} {c : Cx} {d : Nat} {env : Env} {caps : FuncId -> List Ty} {orc : Orc}
theorem Ye3 {cl : Call} {extra : List AV} {ex : List Value} (hop : o.op = .call cl) (hdst : o.dst = some d) (hr : RE c env a.tmps w) (hd : d < env.length)
  (hrun : Enterable P f -> (execOp a.eval o).run P w = .ok (.enter f (cl.args.map (evT a.tmps) ++ ex.toArray)) w) (hex : ∀ vs cs bs, Rel c (SS env noP a.tmps vs w cs bs) -> ValCs c (SS env noP a.tmps vs w cs bs) extra ex) {b : BoxSig} (hO : ∀ args q x, orc f args = some q -> q.run = some x -> Enterable P f /\ ∃ t x0 y ys, nthL args b.k = some (.ptr t x0) /\ q.pk x = ⟨t, y⟩ :: ys /\ FnSpecBox P f sg.results b t x0 args y ys)
  (hK : callB caps orc (some d) f sg b cl.args.toList extra env K = some rr) (hn : Next c a K rr env.length next) : o.wp P a w next Q := by
 unfold callB at hK;simp only at hK;split at hK
 ·rename_i r t hk1 hk2;split at hK
  ·rename_i e ls hg;split at hK
   ·rename_i hc;obtain ⟨⟨⟨hid, hty⟩, hfit, hsub⟩, ⟨hl1, hl2⟩, hap, hcalm⟩ := hc;split at hK
    ·simp at hK
    ·rename_i rvs hrv;split at hK
     ·simp at hK
     ·rename_i q hq;obtain ⟨z0, hres0, hK⟩ := Xr.1 hK;obtain ⟨hent, t0, x0, y, ys, e1, e2, hspec⟩ := hO rvs q z0 hq hres0;obtain ⟨x, hx1, hx2⟩ := Y9w hrv hk2 hk1;rw [hx1] at e1;simp at e1;obtain ⟨rfl, e1⟩ := e1;subst e1;rw [e2] at hK;simp [dif_pos] at hK;cases hra : resAV sg.results ys with
      | none => grind
      | some av =>
       rw [hra] at hK;have has : asm t ls = some (x, []) := by
        unfold ptrOf at hx2;simp [hg] at hx2;split at hx2
        ·rename_i y' hy;split at hx2
         ·simp at hx2;subst hx2; exact hy
         ·simp at hx2
        ·simp at hx2
       obtain ⟨vs, hlen, cs, bs, hrel, hno⟩ := hr;obtain ⟨B, htm, hB0, hBh, hll, htail, hleaf0, hlx, hLvs⟩ := Yc2 hlen hrel hg hid hfit has;generalize hvs : rdArgs env sg.params cl.args.toList ++ extra = avs at *;have hargl : cl.args.toList.length <= sg.params.length := by grind
       have hvals : ValCs c (SS env noP a.tmps vs w cs bs) avs (cl.args.toList.map (evT a.tmps) ++ ex) := by
        rw [<- hvs];exact (Y2p hlen hrel hargl).1.append (hex vs cs bs hrel)
       obtain ⟨u, _, hu1, hu2⟩ := Y8l hvals hk1;obtain ⟨e', ls', B', p1, p2, p3⟩ := hu2;have hrl : r < env.length := Yw hg;have p2 : a.tmps.getD r undef = .pointer (some ⟨B', 0, none⟩) := by rw [<- p2]; exact (X4 (by omega)).symm
       have hBB : B = B' := by grind
       subst hBB;rw [p3] at hu1;have hapo : ∀ v ∈ dropAt b.k avs, (∀ q ∈ v.refs, q.1 ≠ r) := fun v hv => by
        rcases Y6n (Xa.1 hap v hv) with ⟨f, cps, rfl⟩ | h
        ·simp [AV.refs]
        ·exact (Y6m h).1
       let S : Nat -> Prop := fun k => RoS c (SS env noP a.tmps vs w cs bs) k \/ (∃ v ∈ dropAt b.k avs, ∃ q ∈ v.refs, k ∈ bs q.1 (q.2 + 1)) \/ (∃ v ∈ dropAt b.k avs, ∃ q ∈ v.ptrs, q ≠ r /\ ∃ l, k ∈ bs q l) \/ ∃ l, (slotAt b.lv l).isFx = true /\ k ∈ bs r (l + 1)
       have hrvr := Y9z (S := S) hrel (fun k hk => .inl hk) (show (SS env noP a.tmps vs w cs bs).tm r = _ from (X4 (show r < a.tmps.size by omega)).trans htm) hvals hrv ⟨_, hk1⟩ (fun v hv => Xa.1 hap v hv) (fun v hv q hq k hk => .inr (.inl ⟨v, hv, q, hq, hk⟩)) (fun v hv q hq hqr l k hk => .inr (.inr (.inl ⟨v, hv, q, hq, hqr, l, hk⟩)));have hLv := hLvs S (fun k hk _ => .inl hk) (fun l hl k hk => .inr (.inr (.inr ⟨l, hl, hk⟩)))
       let F : Nat -> List Nat := fun l => if (slotAt b.lv l).isFx then [] else bs r (l + 1)
       let bds : List (List Nat) := (List.range (cs r).length).map F
       have hF : ∀ l k, k ∈ F l -> (slotAt b.lv l).isFx = false /\ k ∈ bs r (l + 1) := by grind
       have hin : ∀ k ∈ bds.flatten, ∃ l, (slotAt b.lv l).isFx = false /\ k ∈ bs r (l + 1) := fun k hk => by grind
       have hBin : B ∈ bs r 0 := by rw [hB0]; simp
       have hO1 : ∀ k ∈ B :: bds.flatten, ∃ l, k ∈ bs r l := fun k hk => by grind
       have hnd : (B :: bds.flatten).Nodup := by
        refine X1q.2 ⟨fun h => ?_, Y46 (fun l => ?_) (fun l l' k h1 h2 => ?_) _⟩
        ·obtain ⟨l, _, h⟩ := hin B h;have := (hrel.disj _ _ _ _ _ hBin h).2;omega
        ·simp [F]; split
         ·exact X16
         ·exact hrel.nodup _ _
        ·have := (hrel.disj _ _ _ _ _ (hF l k h1).2 (hF l' k h2).2).2;omega
       have hSO : ∀ k, S k -> k ∉ B :: bds.flatten := by
        intro k hk hm;obtain ⟨l0, hl0⟩ := hO1 k hm;rcases hk with hk | ⟨v, hv, q, hq, hk⟩ | ⟨v, hv, q, hq, hqr, l, hk⟩ | ⟨l, hl, hk⟩
        ·exact hk.1 _ _ hl0
        ·exact hapo v hv q hq (hrel.disj _ _ _ _ _ hk hl0).1
        ·exact hqr (hrel.disj _ _ _ _ _ hk hl0).1
        ·rcases Xq.1 hm with rfl | hm
         ·have := (hrel.disj _ _ _ _ _ hk hBin).2; omega
         ·obtain ⟨l1, hf1, h1⟩ := hin k hm;have := (hrel.disj _ _ _ _ _ hk h1).2;obtain rfl : l = l1 := by omega
          rw [hl] at hf1; cases hf1
       unfold Oper.wp;rw [hrun hent];show Calls P f _ w _;have hargs : cl.args.map (evT a.tmps) ++ ex.toArray = (cl.args.toList.map (evT a.tmps) ++ ex).toArray := by
        rw [<- List.append_toArray, <- X2i, X1c]
       rw [hargs];refine X2j (hspec S w _ B (cs r) bds c.base hu1 hBh hLv hnd (fun k hk => by obtain ⟨l, h⟩ := hO1 k hk; exact (hrel.own _ _ _ h).1.1) hrel.base hrvr hSO) ?_
       rintro e0 w' ⟨ch', bds', chs, bsx, rfl, hbel, hsame, hBh', hcl, hfx, hLv', hfxb, hnd', hnew', hresR⟩
       rw [hdst];obtain ⟨hL1, hL2, hL3⟩ := hLv'
       -- the result, with what it may share
       have hgood : ∃ Sr : Nat -> Prop, ResRel Sr w.heap.size w' (B :: (bds'.flatten ++ bsx)) sg.results ys chs bsx /\ ((∀ k, ¬ Sr k) \/ (∀ k, Sr k -> S k \/ k ∈ B :: bds.flatten) /\ (dropAt b.k avs).all bareAV = true /\ boxFxRo b 0 ls = true) := by
        rcases hcalm with ⟨h1, _⟩ | h2
        ·exact ⟨fun _ => False, Y4p h1 hresR, .inl fun _ h => h⟩
        ·exact ⟨_, hresR, .inr ⟨fun k h => h, h2⟩⟩
       obtain ⟨Sr, hresR', hSr⟩ := hgood;obtain ⟨k2, ls2, rfl, f1, f2, f3, bdsN, f4, f5, f6⟩ := Y4d (c := c) hresR' hra;have hmode := Y3u hra;obtain ⟨hBn, hnd2⟩ := X1q.1 hnd';obtain ⟨hn1, hn2, hn3⟩ := X15.1 hnd2;obtain ⟨g1, g2⟩ := Y14 hn1;rw [f5] at hn2;obtain ⟨g3, g4⟩ := Y14 hn2;have hly : (leaves t y b.md 0).length = ls.length := by grind
       let br : Nat -> List Nat := fun l => match l with
        | 0 => [B]
        | l + 1 => if (slotAt b.lv l).isFx then bs r (l + 1) else bds'.getD l []
       let bn : Nat -> List Nat := fun l => match l with
        | 0 => []
        | l + 1 => bdsN.getD l []
       have hfree : ∀ l k, (slotAt b.lv l).isFx = true -> k ∈ bs r (l + 1) -> k ∉ B :: (bds'.flatten ++ bsx) /\ k ∉ B :: bds.flatten := by
        intro l k hl hk;have h0 : k ∉ B :: bds.flatten := hSO k (.inr (.inr (.inr ⟨l, hl, hk⟩)));refine ⟨fun hm => ?_, h0⟩;rcases Xq.1 hm with rfl | hm
        ·exact h0 (by simp)
        ·rcases hnew' k hm with h | h
         ·exact h0 (X3 _ h)
         ·have := (hrel.own _ _ _ hk).2; exact absurd h (by show ¬ w.heap.size <= k; exact Nat.not_le.2 this)
       have hmemN : ∀ l k, k ∈ bdsN.getD l [] -> k ∈ bds'.flatten ++ bsx := fun l k hk => Xe _ (by rw [f5]; exact Yi hk);have hmemA : ∀ l k, k ∈ bds'.getD l [] -> k ∈ bds'.flatten ++ bsx := fun l k hk => Xc _ (Yi hk);have hback : ∀ k ∈ bds'.flatten ++ bsx, w.heap.size <= k \/ ∃ l', k ∈ bs r l' := fun k hk => (hnew' k hk).elim (fun h => .inr (let ⟨l, _, h⟩ := hin k h; ⟨l + 1, h⟩)) .inl;have hsz : w.heap.size <= w'.heap.size := hbel.size;have hRP := RP.renewR (vs := vs) hlen hrel hno hg hB0 htm hbel (ch' := ch') (br := br) (bn := bn) (ns := mixLs b 0 ls (leaves t y b.md 0)) (k2 := k2) (ls2 := ls2) (rv := resVal sg.results chs) (cells2 := chs.flatten)
        (fun k hk hnk => hsame k hk (fun hm => by obtain ⟨l, h⟩ := hO1 k hm; exact hnk l h)) (by rw [hid]; exact hBh') (fun l hl => hfx l (Y5q hsub hl)) rfl (by rw [Y45 hly.symm, <- hly]; exact hL1) (fun l hl => ?_) (fun l k hk => ?_) (fun l k hk => ?_) (fun l l' k h1 h2 => ?_) (fun l l' k h1 h2 => ?_) (fun l l' k h1 h2 => ?_) (fun l => ?_) (fun l => ?_) (fun lf hlf => ?_) f3 (fun hkeep => ?_)
       ·have hbl : (renewBox r (.box e) (mixLs b 0 ls (leaves t y b.md 0)) env).length = env.length := by unfold renewBox; rw [Y5, Y7]
        rw [<- hbl] at hRP;have := RE.commit hRP (by rw [hbl]; exact hd);rw [Y0] at this;exact hn _ _ _ hK this (by rw [Y18, hbl]) rfl
       ·rw [Y45 hly.symm] at hl;show (if (slotAt b.lv l).isFx then bs r (l + 1) else bds'.getD l []) = [];split
        ·exact htail l hl
        ·rw [Xh, X23 (by rw [hL2, <- hL1, hly]; exact hl)]; rfl
       ·cases l with
        | zero =>
         obtain rfl : k = B := by simpa [br] using hk
         exact ⟨(Xv.1 hBh').1, .inr ⟨0, hBin⟩⟩
        | succ l =>
         have hk : k ∈ (if (slotAt b.lv l).isFx then bs r (l + 1) else bds'.getD l []) := hk;cases hs : (slotAt b.lv l).isFx with
         | true => rw [X4 hs] at hk; exact ⟨X1e (hrel.own _ _ _ hk).2 hsz, .inr ⟨l + 1, hk⟩⟩
         | false =>
          rw [X2 (by rw [hs]; simp)] at hk;have hlt := Y87 hk;obtain ⟨m, _, hrep⟩ := hL3 l _ _ hs (X1 (show l < (leaves t y b.md 0).length by rw [hL1, <- hL2]; exact hlt)) (X1 (show l < ch'.length by rw [<- hL2]; exact hlt));exact ⟨Rep.lt hrep k hk, hback k (hmemA l k hk)⟩
       ·cases l with
        | zero => simp [bn] at hk
        | succ l =>
         have hk : k ∈ bdsN.getD l [] := hk;have hlt := Y87 hk;obtain ⟨m, _, hrep⟩ := f6 l _ _ (X1 (show l < ls2.length by omega)) (X1 (show l < chs.flatten.length by omega));exact ⟨Rep.lt hrep k hk, hback k (hmemN l k hk)⟩
       ·cases l with
        | zero =>
         obtain rfl : k = B := by simpa [br] using h1
         cases l' with
         | zero => rfl
         | succ l' =>
          exfalso;have h2 : k ∈ (if (slotAt b.lv l').isFx then bs r (l' + 1) else bds'.getD l' []) := h2;split at h2
          ·have := (hrel.disj _ _ _ _ _ hBin h2).2; omega
          ·exact hBn (hmemA l' k h2)
        | succ l =>
         replace h1 : k ∈ (if (slotAt b.lv l).isFx then bs r (l + 1) else bds'.getD l []) := h1
         cases l' with
         | zero =>
          have hkB : k = B := by simpa [br] using h2
          exfalso;split at h1
          ·have := (hrel.disj _ _ _ _ _ (hkB ▸ hBin) h1).2; omega
          ·exact hBn (hkB ▸ hmemA l k h1)
         | succ l' =>
          have h2 : k ∈ (if (slotAt b.lv l').isFx then bs r (l' + 1) else bds'.getD l' []) := h2;split at h1
          ·rename_i s1;split at h2
           ·exact (hrel.disj _ _ _ _ _ h1 h2).2
           ·exact absurd (X3 _ (hmemA l' k h2)) (hfree l k s1 h1).1
          ·split at h2
           ·rename_i s2;exact absurd (X3 _ (hmemA l k h1)) (hfree l' k s2 h2).1
           ·rw [g2 l l' k h1 h2]
       ·cases l with
        | zero => simp [bn] at h1
        | succ l => cases l' with
         | zero => simp [bn] at h2
         | succ l' => rw [g4 l l' k h1 h2]
       ·cases l' with
        | zero => simp [bn] at h2
        | succ l' =>
         have h2 : k ∈ bdsN.getD l' [] := h2;have hkx : k ∈ bsx := by rw [f5]; exact Yi h2
         cases l with
         | zero =>
          obtain rfl : k = B := by simpa [br] using h1
          exact hBn (Xe _ hkx)
         | succ l =>
          have h1 : k ∈ (if (slotAt b.lv l).isFx then bs r (l + 1) else bds'.getD l []) := h1;split at h1
          ·rename_i s1;exact (hfree l k s1 h1).1 (X3 _ (Xe _ hkx))
          ·exact hn3 k (Yi h1) k hkx rfl
       ·cases l with
        | zero => simp [br]
        | succ l =>
         show (if (slotAt b.lv l).isFx then bs r (l + 1) else bds'.getD l []).Nodup;split
         ·exact hrel.nodup _ _
         ·exact g1 l
       ·cases l with
        | zero => exact X16
        | succ l => exact g3 l
       ·obtain ⟨l, hl⟩ := Xw hlf;have hsettled : lf.m.settled = true := by
         rcases Y70 hl with ⟨_, h⟩ | ⟨_, h⟩
         ·exact (Y3w hfit h).1
         ·rcases Y29 b.md t y 0 l lf h with ⟨_, hm⟩ | ⟨_, hm⟩
          ·rw [hm]; rfl
          ·rw [hm]; unfold BoxSig.md; cases slotAt b.lv (0 + l) <;> rfl
        obtain ⟨t1, x1, m1⟩ := lf;cases m1 with
        | at_ _ => rfl
        | bor _ _ _ => simp [Mode.settled] at hsettled
        | dead => rfl
       ·-- what may be read behind the call
        have eR : ∀ (s' : St), s'.bs = upd (upd bs r br) env.length bn -> s'.bs r = br := fun s' e => by rw [e, Y2 _ _ (X1k hrl), Y0]
        have hown : ∀ p l k, k ∈ (upd (upd bs r br) env.length bn) p l -> k ∈ bs p l \/ k ∈ B :: (bds'.flatten ++ bsx) := by
         intro p l k hk;by_cases hpN : p = env.length
         ·subst hpN;rw [Y0] at hk;cases l with
          | zero => simp [bn] at hk
          | succ l => exact .inr (X3 _ (hmemN l k hk))
         ·rw [Y2 _ _ hpN] at hk;by_cases hpr : p = r
          ·subst hpr;rw [Y0] at hk;cases l with
           | zero => exact .inl (by rw [hB0]; exact hk)
           | succ l =>
            replace hk : k ∈ (if (slotAt b.lv l).isFx then bs p (l + 1) else bds'.getD l []) := hk
            split at hk
            ·exact .inl hk
            ·exact .inr (X3 _ (hmemA l k hk))
          ·rw [Y2 _ _ hpr] at hk;exact .inl hk
        have hown2 : ∀ l k, k ∈ bs r (l + 1) -> (slotAt b.lv l).isFx = false -> k ∉ B :: (bds'.flatten ++ bsx) -> ∀ p l', k ∉ (upd (upd bs r br) env.length bn) p l' := by
         intro l k hk hs hnk p l' hm;rcases hown p l' k hm with h | h
         ·obtain ⟨rfl, rfl⟩ := hrel.disj _ _ _ _ _ h hk;rw [Y2 _ _ (X1k hrl), Y0] at hm
          replace hm : k ∈ (if (slotAt b.lv l).isFx then bs p (l + 1) else bds'.getD l []) := hm
          rw [X2 (by rw [hs]; simp)] at hm;exact hnk (X3 _ (hmemA l k hm))
         ·exact hnk h
        have hnewk : ∀ k, w.heap.size <= k -> k ∉ B :: (bds'.flatten ++ bsx) -> ∀ p l', k ∉ (upd (upd bs r br) env.length bn) p l' := by
         intro k hk hnk p l' hm;rcases hown p l' k hm with h | h
         ·exact absurd (hrel.own _ _ _ h).2 (Nat.not_lt.2 hk)
         ·exact hnk h
        have hRo : (dropAt b.k avs).all bareAV = true -> boxFxRo b 0 ls = true -> ∀ k, (S k \/ k ∈ bds.flatten \/ w.heap.size <= k) -> k ∉ B :: (bds'.flatten ++ bsx) -> (∀ p l', k ∉ (upd (upd bs r br) env.length bn) p l') /\ (c.S0 k \/ c.mine k) := by
         intro hb1 hb2 k hk hnk;have hbare : ∀ v ∈ dropAt b.k avs, v.refs = [] /\ v.ptrs = [] := fun v hv => Yay (Xa.1 hb1 v hv);rcases hk with hk | hk | hk
         ·rcases hk with hk | ⟨v, hv, q, hq, _⟩ | ⟨v, hv, q, hq, _⟩ | ⟨l, hl, hk⟩
          ·exact ⟨fun p l' hm => (hown p l' k hm).elim (hk.1 p l') hnk, hk.2⟩
          ·rw [(hbare v hv).1] at hq; simp at hq
          ·rw [(hbare v hv).2] at hq; simp at hq
          ·exfalso;by_cases hlt : l < ls.length
           ·have hno := Y7n (n := 0) (l := l) hb2 (X1 hlt) (by rw [X13]; exact hl);have := (hleaf0 l _ _ (X1 hlt) (X1 (show l < (cs r).length by omega))).held hno;have h0 : bs r (l + 1) = [] := this.1;rw [h0] at hk; simp at hk
           ·rw [htail l (by omega)] at hk; simp at hk
         ·obtain ⟨l, hs, h⟩ := hin k hk;exact ⟨hown2 l k h hs hnk, .inr (hrel.own _ _ _ h).1⟩
         ·exact ⟨hnewk k hk hnk, .inr (hrel.mine_new hk)⟩
        refine ⟨fun l lf u hl hu => ?_, ?_⟩
        ·have ebr : (upd (upd bs r br) env.length bn) r (l + 1) = if (slotAt b.lv l).isFx then bs r (l + 1) else bds'.getD l [] := by rw [Y2 _ _ (X1k hrl), Y0]
         rcases Y70 hl with ⟨s1, h1⟩ | ⟨s1, h1⟩
         ·rw [X13] at s1;have h5 := hleaf0 l lf u h1 (by rw [<- hfx l s1]; exact hu);have hset := (Y3w hfit h1).1;have hch : lf.chg noG = lf := by
           obtain ⟨t1, x1, m1⟩ := lf;cases m1 <;> rfl
          have hrefs : lf.refs = [] := by
           obtain ⟨t1, x1, m1⟩ := lf;cases m1 with
           | at_ _ => rfl
           | bor _ _ _ => simp [Mode.settled] at hset
           | dead => rfl
          have h6 := LeafRel.chg (g := noG) (L := fun _ _ => False) (r' := r) hkeep (fun _ _ _ _ _ _ h => h.elim) (fun q hq => by rw [hrefs] at hq; simp at hq) (by show (upd (upd bs r br) env.length bn) r (l + 1) = _; rw [ebr, X4 s1]) (fun k hk => hsame k (hrel.own _ _ _ hk).2 (hfree l k s1 hk).2) h5;rw [hch] at h6;exact h6
         ·rw [X13] at s1;obtain ⟨m, hm, hrep⟩ := hL3 l lf u s1 h1 hu;have hmd := Y29 b.md t y 0 l lf h1;rw [X13] at hmd;have hlt : l < ls.length := by rw [<- hly]; exact (X6.1 h1).1
          have htt : ls[l].t = lf.t := by
           have q1 : ls.map Leaf.t = flat t := by simpa [typedAs] using hty
           have q2 := Y11 t y b.md 0;have q3 := congrArg (fun z => z[l]?) (q1.trans q2.symm);simp only [X14, h1, X1 hlt, X1w, X0] at q3;exact q3
          obtain ⟨t1, x1, m1⟩ := lf;simp only at hm hrep hmd htt;subst hm;refine LeafRel.of_rep ?_ ?_
          ·rcases hmd with ⟨_, h⟩ | ⟨_, h⟩
           ·obtain rfl : m = .ro := by simpa using h
            trivial
           ·unfold BoxSig.md at h;cases hq : slotAt b.lv l <;> rw [hq] at h <;> (simp [Slot.mode] at h; subst h; trivial)
          ·show Rep _ w' t1 m [u] x1 ((upd (upd bs r br) env.length bn) r (l + 1));rw [ebr, X2 (by rw [s1]; simp)];rcases hcalm with ⟨_, hcm⟩ | ⟨hb1, hb2⟩
           ·rcases hmd with ⟨hf, _⟩ | ⟨⟨e0, τ, hs⟩, h⟩
            ·obtain ⟨q1, q2⟩ := Rep.flat (w' := w') (m' := m) hf hrep;rw [q1]; exact q2
            ·have := Y7m hcm (X1 hlt) e0 τ (htt.trans hs);rw [X13] at this;have hdp : slotAt b.lv l = .dp := this.resolve_left (fun e => by rw [e] at s1; cases s1);unfold BoxSig.md at h;rw [hdp] at h;obtain rfl : m = .dp := by simpa [Slot.mode] using h
             exact Rep.dpS hrep
           ·exact Rep.move (fun k hk _ => ⟨hRo hb1 hb2 k hk.1 hk.2, rfl⟩) (fun _ _ => rfl) hrep
        ·refine ⟨?_, ?_, fun l hl => ?_, fun l lf u hl hu => ?_⟩
         ·show KCells c w' ((upd (upd bs r br) env.length bn) env.length 0) k2 _ ((upd (upd cs r ch') env.length chs.flatten) env.length);rw [Y0, Y0];exact f1.bare rfl
         ·show ls2.length = ((upd (upd cs r ch') env.length chs.flatten) env.length).length;rw [Y0]; exact f2
         ·show (upd (upd bs r br) env.length bn) env.length (l + 1) = [];rw [Y0];show bdsN.getD l [] = [];rw [Xh, X23 (by omega)]; rfl
         ·replace hu : chs.flatten[l]? = some u := by
           have : ((upd (upd cs r ch') env.length chs.flatten) env.length)[l]? = some u := hu
           rwa [Y0] at this
          rw [Y1] at hl;obtain ⟨m, hm, hrep⟩ := f6 l lf u hl hu;have hmd := hmode lf (X8 hl);obtain ⟨t1, x1, m1⟩ := lf;simp only at hm hrep;subst hm;refine LeafRel.of_rep (by cases m <;> first | trivial | exact absurd rfl (hmd _)) ?_;show Rep _ w' t1 m [u] x1 ((upd (upd bs r br) env.length bn) env.length (l + 1));rw [Y0];refine Rep.move (fun k hk _ => ⟨?_, rfl⟩) (fun _ _ => rfl) hrep;obtain ⟨hk1, hk2⟩ := hk;rcases hSr with hSr | ⟨hSr, hb1, hb2⟩
          ·have hk1 := hk1.resolve_left (hSr k);exact ⟨hnewk k hk1 hk2, .inr (hrel.mine_new hk1)⟩
          ·exact hRo hb1 hb2 k (hk1.elim (fun h => (hSr k h).imp id (fun h => .inl ((Xq.1 h).resolve_left (fun e => hk2 (by rw [e]; simp))))) (fun h => .inr (.inr h))) hk2
   ·simp at hK
  ·simp at hK
 ·simp at hK
end
section
variable {P : Program} {o : Oper} {a : Act} {w : World} {R : Type} {K : Env -> Option R} {r : R} {next : Act -> World -> Prop} {Q : Exit -> Act -> World -> Prop} {c : Cx} {d : Nat} {T : Tab} {env : Env} {sig : FuncId -> Option Sig} {caps : FuncId -> List Ty} {orc : Orc}
theorem Y56 (hO : OrcOk P sig orc) {cl : Call} {extra : List AV} {ex : List Value} (hop : o.op = .call cl) (hdst : o.dst = some d) (hr : RE c env a.tmps w) (hd : d < env.length)
  (hrun : Enterable P f -> (execOp a.eval o).run P w = .ok (.enter f (cl.args.map (evT a.tmps) ++ ex.toArray)) w) (hex : ∀ vs cs bs, Rel c (SS env noP a.tmps vs w cs bs) -> ValCs c (SS env noP a.tmps vs w cs bs) extra ex) (hexr : ∀ v ∈ extra, (∀ q ∈ v.refs, q.1 < env.length))
  (hK : call1 sig caps orc (some d) f cl.args.toList extra env K = some r) (hn : Next c a K r env.length next) : o.wp P a w next Q := by
 unfold call1 at hK;split at hK
 ·simp at hK
 ·rename_i sg hsg;split at hK
  ·rename_i b hb;exact Ye3 hop hdst hr hd hrun hex (fun args q x h1 h2 => by
    have := hO f sg args q x hsg h1 h2;rw [hb] at this;exact this) hK hn
  rename_i hbx;split at hK
  ·rename_i id hnb;exact Ydt hop hdst hr hd hrun hex hexr (fun args q x h1 h2 => by
    have := hO f sg args q x hsg h1 h2;rw [hbx, hnb] at this;exact this) hK hn
  rename_i hnb;have hbx := And.intro hbx hnb;split at hK
  ·rename_i hm;split at hK
   ·rename_i how;split at hK
    ·rename_i hgv;exact Ydu hO hop hdst hr hd hrun hex hsg hbx hm how hgv hK hn
    ·rename_i k hgv;exact Ye1 hO hop hdst hr hd hrun hex hsg hbx hm how hgv hK hn
   ·rename_i how;simp only at hK;split at hK
    ·rename_i hc;split at hK
     ·simp at hK
     ·rename_i rvs hrv;split at hK
      ·simp at hK
      rename_i q hq;exact Yeq hO hop hdst hr hd hrun hex hexr hsg hbx hm (by grind) hc.1 hc.2.1 hc.2.2 hrv hq hK hn
    ·simp at hK
  ·rename_i hm;split at hK
   ·rename_i how;exact Ye0 hO hop hdst hr hd hrun hex hsg hbx hm how hK hn
   ·rename_i how;exact Ydz hO hop hdst hr hd hrun hex hsg hbx hm (by simpa using how) hK hn
theorem Yaz (hT : TabOk P T) (hO : OrcOk P sig orc) (hdst : o.dst = some d) (hr : RE c env a.tmps w) (hd : d < env.length) (hK : evVal T sig caps orc d o env K = some r) (hn : Next c a K r env.length next) : o.wp P a w next Q := by
 cases hop : o.op with
 | move x =>
  simp [evVal, hop] at hK;exact Yem hop hdst hr hd hK hn
 | assign x =>
  simp [evVal, hop] at hK;split at hK
  ·exact Ybm hop hdst hr hd hK hn
  split at hK
  ·rename_i env' v ht;exact Ycv hop hdst hr hd ht hK hn
  ·simp at hK
 | pick cc x y =>
  simp [evVal, hop] at hK;split at hK
  ·rename_i t hb;exact Yen hop hdst hr hd hb hK hn
  ·simp at hK
 | alloc e =>
  simp [evVal, hop] at hK;split at hK
  ·rename_i τ he;exact Yds hT hop hdst hr hd he hK hn
  ·split at hK
   ·rename_i he;exact Yav hT hop hdst hr hd he hK hn
   ·simp at hK
 | box e x =>
  simp [evVal, hop] at hK;split at hK
  ·rename_i τ he;split at hK
   ·rename_i env' ls ht;exact Yez hT hop hdst hr hd he ht hK hn
   ·simp at hK
  ·simp at hK
 | build t parts =>
  simp [evVal, hop] at hK;split at hK
  ·rename_i τ he;split at hK
   ·rename_i ha;split at hK
    ·rename_i env' ls hb;exact Ydv hT hop hdst hr hd he ha hb hK hn
    ·simp at hK
   ·simp at hK
  ·simp at hK
 | buildSlice t n parts =>
  simp [evVal, hop] at hK;split at hK
  ·rename_i te he;split at hK
   ·rename_i hc;split at hK
    ·rename_i env' xs dp hb;exact Y8x hT hop hdst hr hd he hc.1 hc.2.1 hc.2.2 hb hK hn
    ·simp at hK
   ·simp at hK
  ·simp at hK
 | load t x =>
  simp [evVal, hop] at hK;split at hK
  ·rename_i τ he;split at hK
   ·rename_i q off hx;split at hK
    ·rename_i e ls hb;split at hK
     ·rename_i hty;exact Y9g hT hop hdst hr hd he hx hb hty hK hn
     ·simp at hK
    ·simp at hK
   ·rename_i ls wr hx;split at hK
    ·rename_i hty;exact Y9h hT hop hdst hr hd he hx hty hK hn
    ·simp at hK
   ·simp at hK
  ·split at hK
   ·rename_i he;split at hK
    ·rename_i f cs hx;exact Ybs hT hop hdst hr hd he hx hK hn
    ·simp at hK
   ·simp at hK
 | fieldAddr s x f =>
  simp [evVal, hop] at hK;split at hK
  ·rename_i off τ hf;split at hK
   ·rename_i q o' hx;exact Y6i hT hop hdst hr hd hf hx hK hn
   ·rename_i ls wr hx;cases wr with
    | none => exact Y3q hT hop hdst hr hd hf hx hK hn
    | some z => obtain ⟨_, _, _, _, _⟩ := z; exact Y3q hT hop hdst hr hd hf hx hK hn
   ·simp at hK
  ·simp at hK
 | field s x f =>
  simp [evVal, hop] at hK;split at hK
  ·rename_i off τ hf;split at hK
   ·rename_i ls hx;split at hK
    ·rename_i hty;exact Ydr hT hop hdst hr hd hf hx hty hK hn
    ·simp at hK
   ·simp at hK
  ·simp at hK
 | indexAddr t x i =>
  simp [evVal, hop] at hK;split at hK
  ·rename_i te he;split at hK
   ·rename_i lx n hx hi;split at hK
    ·rename_i xs hxs;split at hK
     ·simp at hK
     ·rename_i hl;obtain ⟨h0, hK⟩ := Y1m hK;simp at h0;exact Y9f hT hop hdst hr hd he hx hi hxs (by simpa using hl) h0.1 h0.2 hK hn
    ·simp at hK
   ·simp at hK
  ·simp at hK
 | index t x i =>
  simp [evVal, hop] at hK;split at hK
  ·rename_i s k n ht hs hi;exact Ydp hT hop hdst hr hd ht hs hi hK hn
  ·simp at hK
 | extract x i =>
  simp only [evVal, hop] at hK;split at hK
  ·rename_i s hx;split at hK
   ·rename_i sh ls hs;split at hK
    ·rename_i off agg n ho;split at hK
     ·rename_i hlive;split at hK
      ·split at hK
       ·rename_i hbare;exact Y86 hop hdst hr hd hs ho hlive hbare hK hn
       ·simp at hK
      ·rename_i hno;exact Y8w hop hdst hr hd hs ho (by grind) hK hn
     ·simp at hK
    ·simp at hK
   ·simp at hK
  ·simp at hK
 | binOp op t x y t' =>
  simp [evVal, hop] at hK;exact Ydo hT hop hdst hr hd hK hn
 | unOp op t x =>
  simp [evVal, hop] at hK;exact Yeo hop hdst hr hd hK hn
 | convert s dt x =>
  simp [evVal, hop] at hK;split at hK
  ·rename_i k k' k2 n hs ht hi;exact Ybn hT hop hdst hr hd hs ht hi hK hn
  ·split at hK
   ·rename_i b hb;exact Ye2 hT hop hdst hr hd hb hK hn
   ·simp at hK
 | slice t x lo hi mx =>
  simp [evVal, hop] at hK;split at hK
  ·simp at hK
  ·split at hK
   ·rename_i lo' hi' hlo hhi;split at hK
    ·rename_i s hs;split at hK
     ·rename_i ht;obtain ⟨h0, hK⟩ := Y1m hK;simp at h0;exact Y9r hT hop hdst hr hd ht hs hlo hhi h0.1 h0.2.1 h0.2.2 hK hn
     ·simp at hK
    ·split at hK
     ·rename_i te he;split at hK
      ·rename_i lx hx;split at hK
       ·rename_i xs hxs;split at hK
        ·simp at hK
        ·rename_i hl;obtain ⟨h0, hK⟩ := Y1m hK;simp at h0;exact Ydx hT hop hdst hr hd he hx hxs (by simpa using hl) hlo hhi h0.1 h0.2.1 h0.2.2 hK hn
       ·simp at hK
      ·simp at hK
     ·simp at hK
   ·simp at hK
 | makeSlice t l cc =>
  simp [evVal, hop] at hK;split at hK
  ·rename_i te n m he hl hc;obtain ⟨h0, hK⟩ := Y1m hK;simp at h0;exact Y9q hT hop hdst hr hd he hl hc h0.1 h0.2.1 h0.2.2 hK hn
  ·simp at hK
 | makeFunc fn first captured =>
  cases fn with
  | func f =>
   simp only [evVal, hop] at hK;split at hK
   ·rename_i hf;split at hK
    ·rename_i cs hc;exact Yat hop hdst hr hd hf hc hK hn
    ·simp at hK
   ·simp at hK
  | _ => simp [evVal, hop] at hK
 | nilCheck x =>
  simp [evVal, hop] at hK;split at hK
  ·rename_i q off hx;exact Y6u hop hdst hr hd hx hK hn
  ·rename_i f cs hx;exact Y79 hop hdst hr hd hx hK hn
  ·rename_i f xs hx;exact Y6v hop hdst hr hd hx hK hn
  ·rename_i f cs hx;exact Y6y hop hdst hr hd hx hK hn
  ·rename_i ls wr hx;exact Y6w hop hdst hr hd hx hK hn
  ·simp at hK
 | call cl =>
  simp [evVal, hop] at hK;split at hK
  ·rename_i f hc;refine Y56 hO (extra := []) (ex := []) hop hdst hr hd (fun he => ?_) (fun _ _ _ _ => rfl) (by simp) hK hn;simp [execOp, hop, resolve, hc, Deferred.ofValue, invoke, Y6, evT, Y2o he]
  ·rename_i t hc;split at hK
   ·rename_i f cs ht;have htl : t < env.length := by
     apply Xx;intro h;rw [Y1d env t (X1o h)] at ht;cases ht
    have hval : ∀ vs cs' bs, Rel c (SS env noP a.tmps vs w cs' bs) -> ∃ us, evT a.tmps (.tmp t) = .func (.func f) #[] us.toArray /\ PtrRels (SS env noP a.tmps vs w cs' bs) cs us := by
     intro vs cs' bs hrel;have hav := hrel.av t;have e1 : (SS env noP a.tmps vs w cs' bs).env t = .clo f cs := by show ovl env noP t = _; rw [Y8 htl]; exact ht
     have e2 : (SS env noP a.tmps vs w cs' bs).tm t = evT a.tmps (.tmp t) := X4 (hr.choose_spec.len ▸ htl);rw [e1, e2] at hav;exact hav.2
    obtain ⟨vs, hlen, cs', bs, hrel, hno⟩ := id hr;obtain ⟨us, e1, e2⟩ := hval vs cs' bs hrel;refine Y56 hO (ex := us) hop hdst hr hd (fun he => ?_) (fun vs2 cs2 bs2 hrel2 => ?_) (fun v hv => ?_) hK hn
    ·simp [execOp, hop, resolve, hc, Y6, e1, Deferred.ofValue, invoke, Y2o he]
    ·obtain ⟨us', f1, f2⟩ := hval vs2 cs2 bs2 hrel2;rw [e1] at f1;have : us = us' := by simpa using f1
     subst this;have go : ∀ {cs : List (Nat × Nat)} {us : List Value}, PtrRels (SS env noP a.tmps vs2 w cs2 bs2) cs us -> ValCs c (SS env noP a.tmps vs2 w cs2 bs2) (cs.map fun c => AV.path c.1 c.2) us := by
      intro cs
      induction cs with
      | nil => intro us h; exact h
      | cons p cs ih =>
       intro us h;obtain ⟨v, vs', h1, h2, h3⟩ := h;exact ⟨v, vs', h1, ⟨[], h2⟩, ih h3⟩
     exact go f2
    ·simp only [X19] at hv;obtain ⟨p, _, rfl⟩ := hv;simp [AV.refs]
   ·rename_i f xs ht;have htl : t < env.length := by
     apply Xx;intro h;rw [Y1d env t (X1o h)] at ht;cases ht
    have hval : ∀ vs cs' bs, Rel c (SS env noP a.tmps vs w cs' bs) -> ∃ us, evT a.tmps (.tmp t) = .func (.func f) #[] us.toArray /\ PtrVs (RoS c (SS env noP a.tmps vs w cs' bs)) w xs us := by
     intro vs cs' bs hrel;have hav := hrel.av t;have e1 : (SS env noP a.tmps vs w cs' bs).env t = .cloR f xs := by show ovl env noP t = _; rw [Y8 htl]; exact ht
     have e2 : (SS env noP a.tmps vs w cs' bs).tm t = evT a.tmps (.tmp t) := X4 (hr.choose_spec.len ▸ htl);rw [e1, e2] at hav;exact hav.2
    obtain ⟨vs, hlen, cs', bs, hrel, hno⟩ := id hr;obtain ⟨us, e1, e2⟩ := hval vs cs' bs hrel;refine Y56 hO (ex := us) hop hdst hr hd (fun he => ?_) (fun vs2 cs2 bs2 hrel2 => ?_) (fun v hv => ?_) hK hn
    ·simp [execOp, hop, resolve, hc, Y6, e1, Deferred.ofValue, invoke, Y2o he]
    ·obtain ⟨us', f1, f2⟩ := hval vs2 cs2 bs2 hrel2;rw [e1] at f1;have : us = us' := by simpa using f1
     subst this;exact Y53 f2
    ·simp at hv;obtain ⟨p, _, rfl⟩ := hv;rw [Y7c];simp
   ·rename_i f caps0 ht;have htl : t < env.length := by
     apply Xx;intro h;rw [Y1d env t (X1o h)] at ht;cases ht
    have hval : ∀ vs cs' bs, Rel c (SS env noP a.tmps vs w cs' bs) -> ∃ v0 us, evT a.tmps (.tmp t) = .func (.func f) #[] us.toArray /\ SelfAt c (SS env noP a.tmps vs w cs' bs) f caps0 v0 us := by
     intro vs cs' bs hrel;have hav := hrel.av t;have e1 : (SS env noP a.tmps vs w cs' bs).env t = .cloS f caps0 := by show ovl env noP t = _; rw [Y8 htl]; exact ht
     have e2 : (SS env noP a.tmps vs w cs' bs).tm t = evT a.tmps (.tmp t) := X4 (hr.choose_spec.len ▸ htl);rw [e1, e2] at hav;exact hav.2
    obtain ⟨vs, hlen, cs', bs, hrel, hno⟩ := id hr;obtain ⟨v0, us, e1, e2⟩ := hval vs cs' bs hrel;refine Y56 hO (ex := us) hop hdst hr hd (fun he => ?_) (fun vs2 cs2 bs2 hrel2 => ?_) (fun v hv => ?_) hK hn
    ·simp [execOp, hop, resolve, hc, Y6, e1, Deferred.ofValue, invoke, Y2o he]
    ·obtain ⟨v0', us', f1, f2⟩ := hval vs2 cs2 bs2 hrel2;rw [e1] at f1;have : us = us' := by simpa using f1
     subst this;exact Ybt f2
    ·simp at hv;obtain ⟨p, _, rfl⟩ := hv;rw [Ybu];simp
   ·simp at hK
  ·rename_i hc;split at hK
   ·rename_i x t hargs htys;split at hK
    ·rename_i s hs;split at hK
     ·rename_i ht;exact Ybo hT hop hc hargs htys hdst hr hd hs ht hK hn
     ·simp at hK
    ·split at hK
     ·rename_i e τ ht;split at hK
      ·rename_i lx hx;split at hK
       ·rename_i xs hxs;split at hK
        ·rename_i hl;exact Y9c hT hop hc hargs htys hdst hr hd ht hx hxs hl hK hn
        ·simp at hK
       ·simp at hK
      ·simp at hK
     ·simp at hK
   ·simp at hK
  ·rename_i hc;split at hK
   ·rename_i s x t t' hargs htys;split at hK
    ·rename_i htt;subst htt;split at hK
     ·rename_i r1 j1 i1 o1 hnest;split at hK
      ·rename_i te hte;exact Yby hT hop hc hargs htys hdst hr hd hte hnest hK hn
      ·simp at hK
     ·exact Ycy hT hop hc hargs htys hdst hr hd hK hn
    ·simp at hK
   ·simp at hK
  ·rename_i hc;split at hK
   ·rename_i x y hargs;split at hK
    ·rename_i k n k' m hx hy;split at hK
     ·rename_i hkk;subst hkk;exact Y8f (t := 0) (mx := true) hop hc hargs hdst hr hd hx hy hK hn
     ·simp at hK
    ·simp at hK
   ·simp at hK
  ·rename_i hc;split at hK
   ·rename_i x y hargs;split at hK
    ·rename_i k n k' m hx hy;split at hK
     ·rename_i hkk;subst hkk;exact Y8f (t := 0) (mx := false) hop hc hargs hdst hr hd hx hy hK hn
     ·simp at hK
    ·simp at hK
   ·simp at hK
  ·simp at hK
 | _ => simp [evVal, hop] at hK
end
section
variable {P : Program} {R : Type} {r : R} {c : Cx} {T : Tab} {sig : FuncId -> Option Sig} {caps : FuncId -> List Ty} {orc : Orc}
theorem Y2m : ∀ {env : Env} {d : Nat} {v : AV}, get env d = v -> put env d v = env
 | [], d, v, h => by cases d <;> rfl
 | u :: env, 0, v, h => by
  have h : u = v := h;rw [<- h]; rfl
 | u :: env, d + 1, v, h => by
  have := Y2m (env := env) (d := d) (v := v) h;show u :: put env d v = _;rw [this]
theorem RE.len (h : RE c env tmps w) : env.length = tmps.size := h.choose_spec.len
theorem RE.skip (hr : RE c env a.tmps w) (hdst : o.dst = some d) (hd : d < env.length) : RE c (setD (some d) env .skip) (a.put o.dst undef).tmps w := by
 obtain ⟨vs, h⟩ := hr;have h1 := h.addVal (n := env.length) (Xi _) rfl (av := .skip) (v := undef) (fun cs bs _ => ⟨[], rfl⟩) ⟨by simp [AV.refs], by simp [AV.ptrs]⟩;have := RE.commit h1 hd;rw [Y0] at this;rw [hdst];exact this
theorem Ye4 (tmps : Array Value) (d : Nat) (v : Value) (h : tmps.getD d undef = v) (hd : d < tmps.size) : tmps.setIfInBounds d v = tmps := by
 apply Array.ext_getElem?;intro i;rw [X1z];split
 ·simp_all
 ·rfl
theorem Yc3 (hT : TabOk P T) (hO : OrcOk P sig orc) {K : Env -> Option R} (hr : RE c env a.tmps w) (hK : evOp T sig caps orc o env K = some r) (hn : Next c a K r env.length next) : o.wp P a w next Q := by
 unfold evOp at hK;split at hK
 ·rename_i d hdst;split at hK
  ·rename_i hd;exact Yaz hT hO hdst hr hd hK hn
  ·simp at hK
 ·rename_i hdst;split at hK
  ·rename_i t x v hop;unfold store1 at hK;split at hK
   ·rename_i hfn;exact Ybv hT hop hdst hr hfn hK hn
   split at hK
   ·rename_i s1 r1 j1 i1 o1 l1 hg;split at hK
    ·rename_i ht;exact Y9u hT hop hdst hr hg ht hK hn
    ·simp at hK
   unfold storePlain at hK;split at hK
   ·simp at hK
   ·rename_i τ ht;split at hK
    ·simp at hK
    ·rename_i env1 ls hta;split at hK
     ·rename_i q off hx;split at hK
      ·rename_i e0 old hold;split at hK
       ·simp only at hK;split at hK
        ·rename_i e old2 h2;split at hK
         ·rename_i hc;exact Y8y hT hop hdst hr ht hta hx h2 hc.1.1 hc.1.2 hc.2 hK hn
         ·simp at hK
        ·simp at hK
       ·simp at hK
      ·simp at hK
     ·rename_i le q j i oo hx;split at hK
      ·rename_i e te xs lv hl;split at hK
       ·rename_i hc;obtain ⟨hlv, hlm⟩ := hc;obtain ⟨h0, hK⟩ := Y1m hK;simp only [X9, X1a] at h0;split at hK
        ·rename_i y hu;exact Y8z hT hlv hop hdst hr ht hta hx hl hlm h0.1 h0.2 hu hK hn
        ·simp at hK
       ·simp at hK
      ·simp at hK
     ·rename_i hx;exact Y90 hT hop hdst hr ht hta hx hK hn
     ·simp at hK
  ·simp at hK
theorem Y1s (hT : TabOk P T) (hO : OrcOk P sig orc) {ops : Array Oper} {l2 : List Nat} {Q : Exit -> Act -> World -> Prop} {N : Nat} {D : List Deferred} {K : Env -> Option R} (hQ : ∀ env' a' w', K env' = some r -> RE c env' a'.tmps w' -> env'.length = N -> a'.defers = D -> wpOps P ops Q l2 a' w') :
  ∀ (l : List Nat) {env : Env} {a : Act} {w : World}, RE c env a.tmps w -> env.length = N -> a.defers = D -> evOps T sig caps orc ops (l.filterMap (ops[·]?)) env K = some r -> wpOps P ops Q (l ++ l2) a w
 | [], env, a, w, hr, hN, hD, hK => hQ env a w hK hr hN hD
 | i :: l, env, a, w, hr, hN, hD, hK => by
  rw [X20];unfold wpOps;cases hi : ops[i]? with
  | none =>
   simp only;rw [List.filterMap_cons_none (by exact hi)] at hK;exact Y1s hT hO hQ l hr hN hD hK
  | some o =>
   simp only;rw [X1x (by exact hi)] at hK;have run : ∀ {env1 : Env}, RE c env1 a.tmps w -> env1.length = N -> evOp T sig caps orc o env1 (fun env' => evOps T sig caps orc ops (l.filterMap (ops[·]?)) env' K) = some r -> o.wp P a w (wpOps P ops Q (l ++ l2)) Q := by
    intro env1 hr1 hN1 hK1;refine Yc3 hT hO hr1 hK1 (fun env' a' w' hK' hr' hl' hd' => ?_);exact Y1s hT hO hQ l hr' (by omega) (hd'.trans hD) hK'
   have skip : ∀ {env1 : Env}, RE c env1 a.tmps w -> env1.length = N -> skipOp o env1 (fun env' => evOps T sig caps orc ops (l.filterMap (ops[·]?)) env' K) = some r -> wpOps P ops Q (l ++ l2) (a.put o.dst undef) w := by
    intro env1 hr1 hN1 hK1;unfold skipOp at hK1;split at hK1
    ·rename_i d hdst;split at hK1
     ·rename_i hd;refine Y1s hT hO hQ l (hr1.skip hdst hd) (by rw [Y18]; exact hN1) ?_ hK1;rw [hdst];exact hD
     ·simp at hK1
    ·rename_i hdst;rw [hdst];exact Y1s hT hO hQ l hr1 hN1 hD hK1
   unfold evOps at hK;cases hg : o.guard with
   | none =>
    rw [hg] at hK;simp only at hK;have hw : Region.wanted o (yielded ops a.tmps) = true := by simp [Region.wanted, hg]
    rw [X4 hw];exact .inl (run hr hN hK)
   | some g =>
    obtain ⟨j, want⟩ := g;rw [hg] at hK;simp only at hK;cases hj : (ops[j]?).bind (·.dst) with
    | none => grind
    | some d =>
     rw [hj] at hK;simp only at hK;have hlen := hr.len;have hdl : ∀ v, get env d = v -> v ≠ .undef -> d < env.length := fun v hv hne => by
      apply Xx;intro h;rw [Y1d env d (X1o h)] at hv;exact hne hv.symm
     have hyield : d < env.length -> yielded ops a.tmps j = match a.tmps.getD d undef with | .bool b => some b | _ => none := fun hd => by
      unfold yielded;rw [hj];simp only [X37];have hd2 : d < a.tmps.size := hlen ▸ hd;rw [Xy, Xt hd2, X2x];generalize a.tmps[d] = v;cases v <;> rfl
     split at hK
     ·rename_i hskip;have hd := hdl _ hskip (by simp);have hv : a.tmps.getD d undef = undef := by
       obtain ⟨vs, hl, cs, bs, hrel, _⟩ := id hr;have hav := hrel.av d;have e1 : ovl env noP d = .skip := by rw [Y8 hd]; exact hskip
       have e2 : ovlT a.tmps vs d = a.tmps.getD d undef := X4 (hlen ▸ hd);simp only [e1, e2] at hav;exact hav.1
      have hw : Region.wanted o (yielded ops a.tmps) = false := by
       simp only [Region.wanted, hg, hyield hd, hv];rfl
      rw [X2 (by rw [hw]; simp)];exact skip hr hN hK
     ·rename_i b hget
      ·have hb : bool1 (rd none env (.tmp d)) = some b := by
        simp [rd, hget, borrowFrom];rfl
       have hvb := hr.bool1 hb;have hd : d < env.length := Yw hget;have hv : a.tmps.getD d undef = .bool b := hvb;have hps : put env d (vBool b) = env := Y2m hget;have hw : Region.wanted o (yielded ops a.tmps) = (b == want) := by
        simp only [Region.wanted, hg, hyield hd, hv];cases b <;> cases want <;> rfl
       rw [hw];cases b with
       | true => grind
       | false => grind
     ·simp at hK
theorem Yb0 (hT : TabOk P T) (hO : OrcOk P sig orc) {ops : Array Oper} {N : Nat} {D : List Deferred} {K : Env -> Option R} (hQ : ∀ env' a' w', K env' = some r -> RE c env' a'.tmps w' -> env'.length = N -> a'.defers = D -> Q .normal a' w')
  (l : List Nat) (hr : RE c env a.tmps w) (hN : env.length = N) (hD : a.defers = D) (hK : evOps T sig caps orc ops (l.filterMap (ops[·]?)) env K = some r) : wpOps P ops Q l a w := by
 have := Y1s (l2 := []) hT hO (Q := Q) hQ l hr hN hD hK
 rwa [Xf] at this
end
section
variable {P : Program} {R : Type} {r : R} {c : Cx} {T : Tab} {sig : FuncId -> Option Sig} {caps : FuncId -> List Ty} {orc : Orc}
theorem RE.forgetD (hr : RE c env tmps w) (hd : d < env.length) : RE c (put (clear d env) d .undef) tmps w := by
 have hl := hr.len;obtain ⟨vs, h⟩ := hr;have h1 := h.addVal (n := env.length) (Xi _) rfl (av := .undef) (v := tmps.getD d undef) (fun cs bs _ => ⟨[], trivial⟩) ⟨by simp [AV.refs], by simp [AV.ptrs]⟩;have := RE.commit h1 hd;rw [Y0, Ye4 tmps d _ rfl (by omega)] at this;unfold setD at this;unfold clear;simp only at this;split at this
 ·grind
 ·rename_i hq; rw [X2 hq]; exact this
theorem Y2i {keep : List Nat} {tmps : Array Value} {w : World} : ∀ (ds : List Nat) {env : Env}, RE c env tmps w -> (∀ d ∈ ds, d < env.length) -> RE c (dropAll keep ds env) tmps w /\ (dropAll keep ds env).length = env.length
 | [], env, hr, _ => ⟨hr, rfl⟩
 | d :: ds, env, hr, hd => by
  unfold dropAll;split
  ·exact Y2i ds hr (fun d' hd' => hd d' (X3 _ hd'))
  ·have h1 := hr.forgetD (hd d Xo);have hlen : (put (clear d env) d .undef).length = env.length := by
    rw [Y5]; unfold clear; split
    ·rfl
    ·exact Y1g _ _
   obtain ⟨k1, k2⟩ := Y2i (keep := keep) ds h1 (fun d' hd' => by grind);exact ⟨k1, k2.trans hlen⟩
theorem RE.drew (hr : RE c env tmps w) : RE c env tmps { w with drawn := w.drawn + 1 } := by
 obtain ⟨vs, hl, cs, bs, h, hno⟩ := hr;exact ⟨vs, hl, cs, bs, h.world (w' := { w with drawn := w.drawn + 1 }) ⟨rfl, rfl, rfl, Xi _, fun _ _ => rfl⟩, hno⟩
def DrawHyp {R : Type} (T : Tab) (sig : FuncId -> Option Sig) (caps : FuncId -> List Ty) (orc : Orc) (dr : Array Oper -> Env -> (Env -> Option R) -> Option R) : Prop :=
 ∀ (ops : Array Oper) (env : Env) (K : Env -> Option R) (r : R), dr ops env K = some r -> ∀ t, ∃ π, evOps T sig caps orc ops (π.filterMap (ops[·]?)) env K = some r /\
  ∀ (P : Program) (Q : Exit -> Act -> World -> Prop) (a : Act) (w : World), (∀ c a w, ¬ Q (.panic c) a w) -> ¬ LetsOut Q -> wpOps P ops Q π a w -> wpOps P ops Q (Region.linearise .any ops t) a w
theorem Oper.wp_monoQ {K : Act -> World -> Prop} {Q Q' : Exit -> Act -> World -> Prop} (h : ∀ e a w, Q e a w -> Q' e a w) (hh : o.wp P a w K Q) : o.wp P a w K Q' := by
 unfold Oper.wp at *;generalize (execOp a.eval o).run P w = r at *;cases r with
 | ok n w' =>
  cases n <;> simp [Oper.upon] at hh ⊢ <;>
   first
    | exact hh
    | exact X2j hh (fun e w'' he => by cases e <;> first | exact he | exact h _ _ _ he | exact he.imp fun a => Exists.imp fun w => h _ _ _)
 | halt x w' => cases x <;> simp [Oper.upon] at hh ⊢ <;> first | exact hh | exact h _ _ _ hh
theorem Y3b {P : Program} {ops : Array Oper} {Q Q' : Exit -> Act -> World -> Prop} (h : ∀ e a w, Q e a w -> Q' e a w) : ∀ {l : List Nat} {a : Act} {w : World}, wpOps P ops Q l a w -> wpOps P ops Q' l a w
 | [], a, w, hh => h _ _ _ hh
 | i :: l, a, w, hh => by
  rw [wpOps_cons] at hh ⊢;unfold wpOp at *;split
  ·rename_i ho;simp [ho] at hh;exact Y3b h hh
  ·rename_i o ho;simp [ho] at hh;split
   ·rename_i hw;simp [hw] at hh;rcases hh with hh | ⟨h1, a2, w2, h2⟩
    ·exact .inl (Oper.wp_mono (fun a w h' => Y3b h h') (Oper.wp_monoQ h hh))
    ·exact .inr ⟨h1, a2, w2, h _ _ _ h2⟩
   ·rename_i hw;simp [hw] at hh;exact Y3b h hh
theorem Yd3 (ops : Array Oper) : (List.range ops.size).filterMap (ops[·]?) = ops.toList := by
 apply X24;intro i;rw [<- X17];have : ∀ (l : List Oper), (List.range l.length).filterMap (fun i => l[i]?) = l := by
  intro l
  induction l with
  | nil => rfl
  | cons x l ih =>
   rw [X1s, List.range_succ_eq_map, X1x (by rfl), List.filterMap_map];congr 1
 have h2 := this ops.toList;simp only [Array.getElem?_toList] at h2;rw [h2]
theorem Y5r {ops : List Oper} {s : Nat} (hr : RE c env tmps w) : RE c (preRow T ops s env) tmps w /\ (preRow T ops s env).length = env.length := by
 unfold preRow;split
 ·split
  ·rename_i ls hrd;refine ⟨?_, (Yk _ _).2⟩;have h1 : ∀ q ∈ (AV.con .val ls).refs, q.1 < env.length := by rw [<- hrd]; exact (hr.refs _ _).1
   obtain ⟨vs, h⟩ := hr;exact ⟨vs, h.freezeAll _ (fun l hl q hq => h1 q (Xj.2 ⟨l, hl, hq⟩)) (fun r => .inl rfl)⟩
  ·exact ⟨hr, rfl⟩
 ·split
  ·rename_i r' j hlf;have hlt : r' < env.length := by
    unfold loadedFrom at hlf;split at hlf
    ·split at hlf
     ·split at hlf
      ·rename_i q o hx;simp at hlf;obtain ⟨rfl, _⟩ := hlf;exact (hr.refs none _).2 _ (by rw [hx]; simp [AV.ptrs])
      ·simp at hlf
     ·split at hlf
      ·rename_i q o hx;simp at hlf;obtain ⟨rfl, _⟩ := hlf;exact (hr.refs none _).2 _ (by rw [hx]; simp [AV.ptrs])
      ·simp at hlf
     ·simp at hlf
    ·simp at hlf
   refine ⟨?_, (Y3r r' j env).2⟩;obtain ⟨vs, h⟩ := hr;exact ⟨vs, h.freezeAll [⟨.unit, (), .bor r' j []⟩] (fun l hl p hp => by
    rw [Xb.1 hl] at hp;simp [Leaf.refs] at hp;rw [hp];exact hlt) (fun r => .inl rfl)⟩
  ·exact ⟨hr, rfl⟩
theorem Y38 {ops : List Oper} : ∀ (ps : List (Nat × Operand)) {env : Env}, RE c env tmps w -> RE c (preElems T ops ps env) tmps w /\ (preElems T ops ps env).length = env.length
 | [], env, hr => ⟨hr, rfl⟩
 | p :: ps, env, hr => by
  unfold preElems;split
  ·rename_i b hb;have h1 := Y5r (T := T) (ops := ops) (s := b) hr;obtain ⟨h2, h3⟩ := Y38 ps h1.1;exact ⟨h2, h3.trans h1.2⟩
  ·exact Y38 ps hr
theorem Y89 {ops : List Oper} {s : Nat} (hr : RE c env tmps w) : RE c (preStore ops s env) tmps w /\ (preStore ops s env).length = env.length := by
 unfold preStore;split
 ·split
  ·rename_i r hx;split
   ·rename_i ls hg;refine ⟨?_, (Yk _ _).2⟩;have hlt : r < env.length := (hr.refs none _).2 _ (by rw [hx]; simp [AV.ptrs]);obtain ⟨vs, h⟩ := hr;exact ⟨vs, h.freezeAll _ (fun l hl p hp => by
     obtain ⟨j, _, rfl⟩ := X19.1 hl;simp only [Leaf.refs, Xb] at hp;rw [hp];exact hlt) (fun r => .inl rfl)⟩
   ·exact ⟨hr, rfl⟩
  ·exact ⟨hr, rfl⟩
 ·exact ⟨hr, rfl⟩
theorem Ya0 {ops : List Oper} {s : Nat} (hr : RE c env tmps w) : RE c (preAsg ops s env) tmps w /\ (preAsg ops s env).length = env.length := by
 unfold preAsg;split
 ·split
  ·rename_i ls hrd;refine ⟨?_, (Yk _ _).2⟩;have h1 : ∀ q ∈ (AV.con .val ls).refs, q.1 < env.length := by rw [<- hrd]; exact (hr.refs _ _).1
   obtain ⟨vs, h⟩ := hr;exact ⟨vs, h.freezeAll _ (fun l hl q hq => h1 q (Xj.2 ⟨l, hl, hq⟩)) (fun r => .inl rfl)⟩
  ·exact ⟨hr, rfl⟩
 ·exact ⟨hr, rfl⟩
theorem Y7q {ops : List Oper} {tmps : Array Value} {w : World} : ∀ (l : List Oper) {env : Env}, RE c env tmps w -> RE c (preF T ops l env) tmps w /\ (preF T ops l env).length = env.length
 | [], env, hr => ⟨hr, rfl⟩
 | o :: l, env, hr => by
  have key : ∀ env', RE c env' tmps w /\ env'.length = env.length -> RE c (preF T ops l env') tmps w /\ (preF T ops l env').length = env.length := fun env' h => by
   obtain ⟨k1, k2⟩ := Y7q l h.1;exact ⟨k1, k2.trans h.2⟩
  unfold preF;refine key _ ?_;split
  ·exact Y5r hr
  ·exact Y38 _ hr
  ·split
   ·exact ⟨hr, rfl⟩
   ·exact Y89 hr
  ·split
   ·exact ⟨hr, rfl⟩
   ·exact Ya0 hr
  ·exact ⟨hr, rfl⟩
theorem Y2q (hT : TabOk P T) (hO : OrcOk P sig orc) {ops : Array Oper} {Q : Exit -> Act -> World -> Prop} {N : Nat} {D : List Deferred} {K : Env -> Option R} (hQ : ∀ env' a' w', K env' = some r -> RE c env' a'.tmps w' -> env'.length = N -> a'.defers = D -> Q .normal a' w') :
  ∀ (l : List Nat) {env : Env} {a : Act} {w : World}, RE c env a.tmps w -> env.length = N -> a.defers = D -> evOpsS T sig caps orc ops (l.filterMap (ops[·]?)) env K = some r -> wpOps P ops Q l a w
 | [], env, a, w, hr, hN, hD, hK => hQ env a w hK hr hN hD
 | i :: l, env, a, w, hr, hN, hD, hK => by
  cases hi : ops[i]? with
  | none =>
   rw [List.filterMap_cons_none (by exact hi)] at hK;unfold wpOps;simp only [hi];exact Y2q hT hO hQ l hr hN hD hK
  | some o =>
   rw [X1x (by exact hi)] at hK;unfold evOpsS at hK;split at hK
   ·rename_i b env' hs;obtain ⟨hb, hK⟩ := Y1m hK;subst hb;unfold wpOps;simp only [hi];have hg := Y92 hs;have hw : Region.wanted o (yielded ops a.tmps) = true := by simp [Region.wanted, hg]
    rw [X4 hw];refine .inl (Y93 hT hr hs (fun a' w' h1 h2 h3 => ?_));exact Y2q hT hO hQ l h1 (h2.trans hN) (h3.trans hD) hK
   ·exact Y1s (l2 := l) hT hO (Q := Q) (N := N) (D := D) (fun env' a' w' h1 h2 h3 h4 => Y2q hT hO hQ l h2 h3 h4 h1) [i] (Y7l (o := o) hr).1 ((Y7l (o := o) hr).2.trans hN) hD (by
     show evOps T sig caps orc ops ([i].filterMap (ops[·]?)) (preTup o env) _ = _;rw [X1x (by exact hi)];exact hK)
theorem Y2r (hT : TabOk P T) (hO : OrcOk P sig orc) (hm : P.follows .mixedOrders = true) {dr : Array Oper -> Env -> (Env -> Option R) -> Option R} (hdraw : DrawHyp (R := R) T sig caps orc dr) {N : Nat} {D : List Deferred} :
  ∀ (code : Code) {m : Nat} {env : Env} {K : Exit -> Env -> Option R} {Q : Exit -> Act -> World -> Prop} {a : Act} {w : World}, RE c env a.tmps w -> env.length = N -> a.defers = D ->
   (∀ e env' a' w', K e env' = some r -> RE c env' a'.tmps w' -> env'.length = N -> a'.defers = D -> Q e a' w') -> evCode T sig caps orc dr fuel ann m code env K = some r -> code.wp P Q a w := by
 intro code
 induction code with
 | skip =>
  intro m env K Q a w hr hN hD hQ hK;simp [evCode] at hK;exact wp_skip (hQ _ _ _ _ hK hr hN hD)
 | region id ops draw =>
  intro m env K Q a w hr hN hD hQ hK;simp [evCode] at hK;cases draw with
  | false =>
   simp at hK;refine wp_region (Y2q (caps := caps) hT hO (K := K .normal) (N := N) (D := D) (fun env' a' w' h1 h2 h3 h4 => hQ _ _ _ _ h1 h2 h3 h4) _ hr hN hD ?_);rw [Yd3];exact hK
  | true =>
   simp at hK;refine wp_region_draw (fun t => ?_);simp [Region.schedule, hm];obtain ⟨p1, p2⟩ := Y7q (ops := ops.toList) ops.toList hr;obtain ⟨π, q1, q2⟩ := hdraw ops _ _ r hK t;refine Y3b (Q := fun e a w => e = .normal /\ Q .normal a w) (fun e a w h => by obtain ⟨rfl, h⟩ := h; exact h) (q2 _ _ _ _ (fun c a w h => by cases h.1) (fun ⟨a, w, h⟩ => by cases h.1) ?_);exact Yb0 hT hO (K := K .normal) (N := N) (D := D) (fun env' a' w' h1 h2 h3 h4 => ⟨rfl, hQ _ _ _ _ h1 h2 h3 h4⟩) _ p1.drew (p2.trans hN) hD q1
 | seq x y ihx ihy =>
  intro m env K Q a w hr hN hD hQ hK;simp [evCode] at hK;refine wp_seq (ihx hr hN hD (fun e env' a' w' h1 h2 h3 h4 => ?_) hK);cases e with
  | normal => exact ihy h2 h3 h4 hQ h1
  | _ => exact hQ _ _ _ _ h1 h2 h3 h4
 | cond cc x y ihx ihy =>
  intro m env K Q a w hr hN hD hQ hK;simp [evCode] at hK;split at hK
  ·rename_i t hb;have hc := hr.bool1 hb;refine wp_cond (t := t) (by rw [Y6]; exact hc) ?_;cases t with
   | true => exact ihx hr hN hD hQ hK
   | false => exact ihy hr hN hD hQ hK
  ·simp at hK
 | block id x ih =>
  intro m env K Q a w hr hN hD hQ hK;simp [evCode] at hK;refine wp_block (ih hr hN hD (fun e env' a' w' h1 h2 h3 h4 => ?_) hK);cases e with
  | exit id' =>
   simp only at h1;show if id' = id then Q .normal a' w' else Q (.exit id') a' w'
   split at h1
   ·grind
   ·grind
  | _ => exact hQ _ _ _ _ h1 h2 h3 h4
 | loop x ih =>
  intro m env K Q a w hr hN hD hQ hK;simp [evCode] at hK;split at hK
  ·simp at hK
  ·rename_i keep hkeep;refine wp_loop_rounds fuel ?_;have key : ∀ (n : Nat) {env : Env} {a : Act} {w : World}, RE c env a.tmps w -> env.length = N -> a.defers = D ->
     iter (fun rec env => evCode T sig caps orc dr fuel ann m x env fun e env' => match e with | .normal => rec (dropAll keep (List.range env'.length) env') | e => K e env') n env = some r -> Code.rounds P x Q n a w := by
    intro n
    induction n with
    | zero => intro env a w _ _ _ hK; simp [iter] at hK
    | succ n ihn =>
     intro env a w hr hN hD hK;simp [iter] at hK;rw [rounds_succ];refine ih hr hN hD (fun e env' a' w' h1 h2 h3 h4 => ?_) hK;cases e with
     | normal =>
      obtain ⟨k1, k2⟩ := Y2i (keep := keep) (List.range env'.length) h2 (fun d hd => X1v.1 hd);exact ihn k1 (by grind) h4 h1
     | _ => exact hQ _ _ _ _ h1 h2 h3 h4
   obtain ⟨k1, k2⟩ := Y2i (keep := keep) (List.range env.length) hr (fun d hd => X1v.1 hd);exact key fuel k1 (by grind) hD hK
 | exit id =>
  intro m env K Q a w hr hN hD hQ hK;simp [evCode] at hK;exact wp_exit (hQ _ _ _ _ hK hr hN hD)
 | ret =>
  intro m env K Q a w hr hN hD hQ hK;simp [evCode] at hK;exact wp_ret (hQ _ _ _ _ hK hr hN hD)
 | _ => intro m env K Q a w hr hN hD hQ hK; simp [evCode] at hK
end
def ArgOk (S : Nat -> Prop) (w : World) (c : Cx) (av : AV) (v : Value) (cells : List Value) : Prop :=
 ∀ (s : St) (r : Nat), s.w = w -> (∀ b, S b -> RoS c s b) -> (∀ l, s.bs r l = []) -> s.cs r = cells -> AVRel c s r av v /\ av.refs = [] /\ av.ptrs = []
theorem Ya1 {rv : RV} (h : RVRel S w rv v) (hp : paramAV rv = some av) : ∃ cells, ArgOk S w c av v cells := by
 cases rv with
 | val t x =>
  obtain ⟨ch, rfl, hrep⟩ := h;simp [paramAV] at hp;subst hp;obtain ⟨h1, h2⟩ := Y1u t (fun _ => .at_ .ro) 0 hrep;refine ⟨ch, fun s r hw hS hb hc => ⟨?_, Y31 t x 0, rfl⟩⟩;refine ⟨?_, by rw [hc]; exact h1, fun l _ => hb _, fun l lf u hl hu => ?_⟩
  ·rw [hc];exact (Y2b (w := s.w) (fun ha => by rw [hrep.len]; exact Y3j ha)).bare (hb 0)
  ·rw [hc] at hu;have hm := Y2f t x 0 lf (Yb hl);have := (h2 l lf u (by rw [<- Y1]; exact hl) hu).1;refine LeafRel.of_held (by rw [hm]; rfl) (hb _) ?_;obtain ⟨t', x', m⟩ := lf;simp only at hm;subst hm;show Rep (RoS c s) s.w _ _ _ _ _;rw [hw];exact Rep.move (fun b hb _ => ⟨hS b hb, rfl⟩) (by simp) this
 | ptr t x =>
  obtain ⟨a, ch, rfl, hSa, hlt, hcell, hrep⟩ := h;simp [paramAV] at hp;subst hp;obtain ⟨h1, h2⟩ := Y1u t (fun _ => .at_ .ro) 0 hrep;refine ⟨[], fun s r hw hS hb hc => ⟨?_, by simp only [AV.refs, Xf]; exact Y31 t x 0, rfl⟩⟩;refine ⟨hb, a, rfl, fun l lf hl => ?_, hS _ hSa, by grind⟩;have hm := Y2f t x 0 lf (Yb hl);refine ⟨by rw [hm]; rfl, ?_⟩;have hl' := hl;rw [Y1] at hl';have hll : l < ch.length := by grind
  refine ⟨ch[l], by rw [hw]; exact hcell l _ (X1 hll), ?_⟩;have := (h2 l lf ch[l] hl' (X1 hll)).1;obtain ⟨t', x', m⟩ := lf;subst hm;show Rep (RoS c s) s.w _ _ _ _ _;rw [hw];exact Rep.move (fun b hb _ => ⟨hS b hb, rfl⟩) (by simp) this
 | clo f caps =>
  obtain ⟨us, rfl, hps⟩ := h;simp [paramAV] at hp;subst hp;exact ⟨[], fun s r hw hS hb hc => ⟨⟨hb, us, rfl, hps.move (fun b hb _ => ⟨hS b hb, by rw [hw]⟩)⟩, rfl, rfl⟩⟩
 | fptr f caps => exact h.elim
theorem Y5s {S : Nat -> Prop} {w : World} {c : Cx} : ∀ {args : List RV} {vals : List Value} {as : List AV}, RVRels S w args vals -> paramAVs args = some as -> vals.length = as.length /\ ∃ cs : Nat -> List Value, ∀ r, r < as.length -> ArgOk S w c (get as r) (vals.getD r undef) (cs r)
 | [], vals, as, h, hp => by
  simp [paramAVs] at hp;subst hp;exact ⟨by rw [show vals = [] from h]; rfl, fun _ => [], fun r hr => by simp at hr⟩
 | rv :: args, vals, as, ⟨v, vals', e, h1, h2⟩, hp => by
  simp [paramAVs] at hp;cases ha : paramAV rv with
  | none => grind
  | some av =>
   cases has : paramAVs args with
   | none => grind
   | some as' =>
    rw [ha, has] at hp;simp at hp;subst hp; subst e;obtain ⟨k1, cs, k2⟩ := Y5s (c := c) h2 has;obtain ⟨cells, k3⟩ := Ya1 (c := c) h1 ha;refine ⟨by simp [k1], fun r => match r with | 0 => cells | r + 1 => cs r, fun r hr => ?_⟩;cases r with
    | zero => exact k3
    | succ r => exact k2 r (by simpa using hr)
theorem Y2j : ∀ (as bs : Env) (r : Nat), r < as.length -> get (as ++ bs) r = get as r
 | [], bs, r, h => by simp at h
 | a :: as, bs, 0, _ => rfl
 | a :: as, bs, r + 1, h => Y2j as bs r (by simpa using h)
theorem Y2k : ∀ (as bs : Env) (r : Nat), as.length <= r -> get (as ++ bs) r = get bs (r - as.length)
 | [], bs, r, h => by simp
 | a :: as, bs, 0, h => by simp at h
 | a :: as, bs, r + 1, h => by
  simp [get];exact Y2k as bs r (by simpa using h)
theorem Y6c : ∀ (n r : Nat) (v : AV), r < n -> get (List.replicate n v) r = v
 | 0, r, v, h => by omega
 | n + 1, 0, v, _ => rfl
 | n + 1, r + 1, v, h => Y6c n r v (by omega)
def cx0 (S : Nat -> Prop) (w : World) : Cx := ⟨S, w.heap.size, w, fun _ => default, fun _ => False, default, fun _ => default⟩
theorem Yek {args : List RV} {vals : List Value} (h : RVRels S w args vals) (hp : paramAVs args = some as) (hn : as.length <= n) :
  RE (cx0 S w) (as ++ List.replicate (n - as.length) .skip) (vals.toArray ++ Array.replicate (n - vals.toArray.size) undef) w := by
 obtain ⟨k1, cs, k2⟩ := Y5s (c := (cx0 S w)) h hp;have hsz : vals.toArray.size = as.length := by simpa using k1
 let env : Env := as ++ List.replicate (n - as.length) .skip
 let tmps : Array Value := vals.toArray ++ Array.replicate (n - vals.toArray.size) undef
 have hel : env.length = n := by grind
 have htl : tmps.size = n := by grind
 let bs : Nat -> Nat -> List Nat := fun _ _ => []
 let s : St := SS env noP tmps noV w cs bs
 have hRoS : ∀ b, S b -> RoS (cx0 S w) s b := fun b hb => ⟨fun _ _ => by simp [s, bs], .inl hb⟩;have hget : ∀ r, r < as.length -> ovl env noP r = get as r /\ ovlT tmps noV r = vals.getD r undef := fun r hr => by
  refine ⟨by rw [Y8 (by omega)]; exact Y2j _ _ _ hr, ?_⟩;show (if r < tmps.size then tmps.getD r undef else _) = _;rw [X4 (by omega)];have : r < vals.length := by omega
  simp [tmps, this, Xy, X2z, Xh]
 have hav : ∀ r, AVRel (cx0 S w) s r (ovl env noP r) (ovlT tmps noV r) /\ (ovl env noP r).refs = [] /\ (ovl env noP r).ptrs = [] := fun r => by
  by_cases h1 : r < as.length
  ·rw [(hget r h1).1, (hget r h1).2];exact k2 r h1 s r rfl hRoS (fun _ => rfl) rfl
  ·by_cases h2 : r < n
   ·have e1 : ovl env noP r = .skip := by
     rw [Y8 (by omega)];show get (as ++ _) r = _;rw [Y2k _ _ _ (by omega), Y6c _ _ _ (by omega)]
    have e2 : ovlT tmps noV r = undef := by
     show (if r < tmps.size then tmps.getD r undef else _) = _;rw [X4 (by omega)];simp only [tmps, Xy];rw [X2g (by omega), X28];split <;> rfl
    rw [e1, e2];exact ⟨⟨rfl, fun _ => rfl⟩, rfl, rfl⟩
   ·have e1 : ovl env noP r = .undef := by rw [Yt (by omega)]; rfl
    rw [e1];exact ⟨fun _ => rfl, rfl, rfl⟩
 refine ⟨noV, by rw [hel, htl], cs, bs, ⟨X1g _ _, Xi _, fun r l b hb => by simp [bs] at hb, fun r l r' l' b hb => by simp [bs] at hb, fun r l => X16, fun r => (hav r).1, fun b hb => hb.elim⟩, fun r => ?_⟩;rw [(hav r).2.1, (hav r).2.2];exact ⟨by simp, by simp⟩
def cxM (S : Nat -> Prop) (base : Nat) (w : World) (ch : List Value) (b0 : List Nat) : Cx := ⟨S, base, w, fun i => ch.getD i undef, fun b => b < w.heap.size /\ b ∉ b0, default, fun _ => default⟩
def ownB (bs : Nat -> Nat -> List Nat) (t : Ty) (d : Nat) : List Nat := (List.range' 0 t.sz).flatMap fun l => bs d (l + 1)
def outB (cs : Nat -> List Value) (bs : Nat -> Nat -> List Nat) (d l : Nat) : List Nat := (bs d l).filter fun b => decide (((cs d).getD (l - 1) undef).ownBlock = some b)
def resB1 (cs : Nat -> List Value) (bs : Nat -> Nat -> List Nat) (t : Ty) (fr : Lvl) (d : Nat) : List Nat := match fr with
 | .dp => ownB bs t d
 | .sh => ownB (outB cs bs) t d
 | _ => []
theorem Rep.outer {S S' : Nat -> Prop} {x : List t.D} {B : List Nat} (h : Rep S w (.slice e t) lv [u] x B) (hlv : lv = .dp \/ lv = .sh) (hnd : B.Nodup) (h1 : ∀ b, S b -> S' b) (h2 : ∀ b ∈ B, b ∉ (B.filter fun b => decide (u.ownBlock = some b)) -> S' b) :
  Rep S' w (.slice e t) .sh [u] x (B.filter fun b => decide (u.ownBlock = some b)) := by
 obtain ⟨v, xs, b0, b1, e1, rfl, hel, hrow⟩ := h;obtain rfl : u = v := by simpa using e1
 obtain ⟨rfl, hown⟩ : b0 = u.ownBlock.toList /\ w.ownsRow 0 e t.sz u x.length xs := by rcases hlv with rfl | rfl <;> exact hrow
 have hf : ((u.ownBlock.toList ++ b1).filter fun b => decide (u.ownBlock = some b)) = u.ownBlock.toList := by
  rw [List.filter_append];have k1 : (u.ownBlock.toList.filter fun b => decide (u.ownBlock = some b)) = u.ownBlock.toList := List.filter_eq_self.2 (fun b hb => decide_eq_true (Ys.1 hb));have k2 : (b1.filter fun b => decide (u.ownBlock = some b)) = [] := List.filter_eq_nil_iff.2 (fun b hb hd => (X15.1 hnd).2.2 b (Ys.2 (of_decide_eq_true hd)) b hb rfl);rw [k1, k2, Xf]
 rw [hf] at h2 ⊢;refine ⟨u, xs, _, [], rfl, (Xf _).symm, ?_, rfl, hown⟩;refine El.bareW (bs := b1) (fun c x b hk hx => ?_) (fun k hk => hk) hel;refine Rep.move (S := fun b' => S b' \/ b' ∈ b) (fun b' hb' _ => ⟨?_, rfl⟩) (by simp) (Rep.ro hx);rcases hb' with hb' | hb'
 ·exact h1 _ hb'
 ·grind
def resB (cs : Nat -> List Value) (bs : Nat -> Nat -> List Nat) : List (Ty × Lvl) -> List ResultVar -> List Nat
 | p :: ps, v :: vs => resB1 cs bs p.1 p.2 (resTmp v) ++ resB cs bs ps vs
 | _, _ => []
section
variable {P : Program} {c : Cx} {T : Tab}
theorem Ya2 {d b : Nat} (h : b ∈ ownB bs t d) : ∃ l, b ∈ bs d (l + 1) := by
 simp [ownB] at h;obtain ⟨l, _, h⟩ := h;exact ⟨l, h⟩
theorem Y8n {fr : Lvl} {d b : Nat} (h : b ∈ resB1 cs bs t fr d) : ∃ l, b ∈ bs d (l + 1) := by
 cases fr with
 | dp => exact Ya2 h
 | sh =>
  obtain ⟨l, hl⟩ := Ya2 h;exact ⟨l, (X1r.1 hl).1⟩
 | ro => simp [resB1] at h
 | pn _ => simp [resB1] at h
theorem Y1n : ∀ {rs : List (Ty × Lvl)} {vars : List ResultVar} {b : Nat}, b ∈ resB cs bs rs vars -> ∃ (i : Nat) (p : Ty × Lvl) (v : ResultVar) (l : Nat), rs[i]? = some p /\ vars[i]? = some v /\ b ∈ resB1 cs bs p.1 p.2 (resTmp v) /\ b ∈ bs (resTmp v) (l + 1)
 | [], vars, b, h => by simp [resB] at h
 | p :: ps, [], b, h => by simp [resB] at h
 | p :: ps, v :: vs, b, h => by
  simp [resB] at h;rcases h with h | h
  ·obtain ⟨l, hl⟩ := Y8n h;exact ⟨0, p, v, l, rfl, rfl, h, hl⟩
  ·obtain ⟨i, p', v', l, h1, h2, h3, h4⟩ := Y1n h;exact ⟨i + 1, p', v', l, h1, h2, h3, h4⟩
theorem Ya3 (hr : Rel c (SS env noP tmps vs w cs bs)) {fr : Lvl} {x : t.D} (hk : get env d = .con k ls)
  (hall : (ls.all fun l => l.m.settled && fr.asks l) = true) (has : asm t ls = some (x, [])) :
  ∀ S' : Nat -> Prop, (∀ b, RoS c (SS env noP tmps vs w cs bs) b -> S' b) -> (∀ l, ∀ b ∈ bs d (l + 1), b ∉ resB1 cs bs t fr d -> S' b) -> Rep S' w t fr.res (cs d) x (resB1 cs bs t fr d) := by
 have hd : d < env.length := Yw hk;have hav := hr.av d;have e1 : (SS env noP tmps vs w cs bs).env d = .con k ls := by show ovl env noP d = _; rw [Y8 hd, hk]
 rw [e1] at hav;obtain ⟨_, g2, g3, g4⟩ := hav;have hleaf : ∀ l lf u, ls[l]? = some lf -> (cs d)[l]? = some u -> ∃ lv, lf.m = .at_ lv /\ Rep (RoS c (SS env noP tmps vs w cs bs)) w lf.t lv [u] lf.x (bs d (l + 1)) /\ (match lf.t with | .slice _ _ => (match fr with | .dp => lv = .dp | .sh => lv = .dp \/ lv = .sh | _ => True) | _ => True) := by
  intro l lf u hl hu;have h6 := g4 l lf u (by rw [Y1]; exact hl) hu;have h7 := Xa.1 hall lf (X8 hl);simp at h7;obtain ⟨h7, h8⟩ := h7;obtain ⟨t', x', m⟩ := lf;cases m with
  | at_ lv =>
   refine ⟨lv, rfl, h6.rep, ?_⟩;cases t' with
   | slice e τ =>
    cases fr with
    | dp => simpa [Lvl.asks] using h8
    | sh => simpa [Lvl.asks] using h8
    | _ => trivial
   | _ => trivial
  | bor _ _ _ => simp [Mode.settled] at h7
  | dead => simp [Mode.settled] at h7
 intro S' h1 h2;have hdp : fr = .dp -> Rep S' w t .dp (cs d) x (ownB bs t d) := by
  intro hfr;subst hfr;obtain ⟨c0, c1, k1, k2, k3, k4, _⟩ := Y32 (S := S') (w := w) (L := .dp) (F := fun l => bs d (l + 1)) t (k := 0) has g2 (fun l lf u hl hu => by
   obtain ⟨lv, h1, h2, h3⟩ := hleaf l lf u hl hu;rw [X13];obtain ⟨us, e0, hna⟩ := Y3l t has;rw [Xf] at e0;have hna := hna lf (by grind);obtain ⟨t', x', m⟩ := lf;simp only at h1 h2 h3;cases t' with
   | slice e τ => simp only at h3; subst h3; exact Rep.dpS h2
   | int _ => exact h2
   | bool => exact h2
   | str => exact h2
   | unit => simp [Ty.isAgg] at hna
   | pair _ _ => simp [Ty.isAgg] at hna)
  have : c1 = [] := Xn.1 k3.symm;subst this;rw [Xf] at k1;have k1 : cs d = c0 := k1;rw [k1];exact k4
 have hsh : fr = .sh -> Rep S' w t .sh (cs d) x (ownB (outB cs bs) t d) := by
  intro hfr;subst hfr;obtain ⟨c0, c1, k1, k2, k3, k4, _⟩ := Y32 (S := S') (w := w) (L := .sh) (F := fun l => outB cs bs d (l + 1)) t (k := 0) has g2 (fun l lf u hl hu => by
   obtain ⟨lv, _, hr2, h3⟩ := hleaf l lf u hl hu;rw [X13];have hob : outB cs bs d (l + 1) = (bs d (l + 1)).filter fun b => decide (u.ownBlock = some b) := by
    unfold outB;rw [Nat.add_sub_cancel, Xh, hu]; rfl
   obtain ⟨us, e0, hna⟩ := Y3l t has;rw [Xf] at e0;have hna := hna lf (by rw [<- e0]; exact X8 hl);have hnb : ∀ b ∈ bs d (l + 1), b ∉ outB cs bs d (l + 1) -> S' b := by
    intro b hb hnb;refine h2 l b hb (fun hm => ?_);simp [resB1, ownB] at hm;obtain ⟨l', _, hm⟩ := hm;have := (hr.disj _ _ _ _ _ hb (X1r.1 hm).1).2;obtain rfl : l = l' := by omega
    exact hnb hm
   rw [hob] at hnb ⊢;obtain ⟨t', x', m⟩ := lf;simp only at hr2 h3;cases t' with
   | slice e τ => exact Rep.outer hr2 h3 (hr.nodup _ _) h1 hnb
   | int _ => obtain ⟨q1, q2⟩ := hr2; rw [q2]; exact ⟨q1, rfl⟩
   | bool => obtain ⟨q1, q2⟩ := hr2; rw [q2]; exact ⟨q1, rfl⟩
   | str => obtain ⟨q1, q2⟩ := hr2; rw [q2]; exact ⟨q1, rfl⟩
   | unit => simp [Ty.isAgg] at hna
   | pair _ _ => simp [Ty.isAgg] at hna)
  have : c1 = [] := Xn.1 k3.symm;subst this;rw [Xf] at k1;have k1 : cs d = c0 := k1;rw [k1];exact k4
 have hro : resB1 cs bs t fr d = [] -> fr.res = .ro -> Rep S' w t fr.res (cs d) x (resB1 cs bs t fr d) := by
  intro hnil hres;rw [hres, hnil];rw [hnil] at h2;obtain ⟨c0, c1, k1, k3, k4, _⟩ := Y30 (S := S') (w := w) t has g2 (fun l lf u hl hu => by
   obtain ⟨lv, _, h3, _⟩ := hleaf l lf u hl hu;exact h3.roS (fun b hb _ => h1 b hb) (fun b hb => h2 l b hb (by simp)))
  have : c1 = [] := Xn.1 k3.symm;subst this;rw [Xf] at k1;have k1 : cs d = c0 := k1;rw [k1];exact k4
 cases fr with
 | dp => exact hdp rfl
 | sh => exact hsh rfl
 | ro => exact hro rfl rfl
 | pn _ => exact hro rfl rfl
def rvRun (tmps : Array Value) : ResultVar -> Sem Value := fun
  | ResultVar.tmp t => pure (tmps.getD t undef)
  | ResultVar.cell a t => do loadVar t (<- asAddr (tmps.getD a undef))
def RunsTo (P : Program) (tmps : Array Value) (w : World) (v : ResultVar) (u : Value) : Prop := Sem.run P (rvRun tmps v) w = Result.ok u w
theorem Ye5 (hT : TabOk P T) (hlen : env.length = tmps.size) (hr : Rel c (SS env noP tmps vs w cs bs)) {fr : Lvl} {v : ResultVar} {x : t.D} (h : res1 T env t fr v = some x) :
  ∃ ch, RunsTo P tmps w v (mkV t.isAgg ch) /\ ∀ S' : Nat -> Prop, (∀ b, RoS c (SS env noP tmps vs w cs bs) b -> S' b) -> (∀ l, ∀ b ∈ bs (resTmp v) (l + 1), b ∉ resB1 cs bs t fr (resTmp v) -> S' b) -> Rep S' w t fr.res ch x (resB1 cs bs t fr (resTmp v)) := by
 cases v with
 | cell d tid =>
  simp only [res1] at h;split at h
  ·rename_i htid;split at h
   ·rename_i e ls hk;split at h
    ·rename_i hall;split at h
     ·rename_i y has;simp at h;subst h;have k2 := Ya3 hr hk hall has;refine ⟨cs d, ?_, k2⟩;have hd : d < env.length := Yw hk;have hav := hr.av d;have e1 : (SS env noP tmps vs w cs bs).env d = .con (.box e) ls := by show ovl env noP d = _; rw [Y8 hd, hk]
      have e2 : (SS env noP tmps vs w cs bs).tm d = tmps.getD d undef := X4 (hlen ▸ hd);rw [e1, e2] at hav;obtain ⟨⟨B, g1, g2, _⟩, _⟩ := hav;have hl := (k2 (fun _ => True) (fun _ _ => trivial) (fun _ _ _ _ => trivial)).len;have hload := Y51 (P := P) (w := w) hT htid (x := ⟨B, 0, none⟩) hl (fun j u hu => by
       rw [Y1e];unfold World.cell?;rw [show w.heap[B]? = _ from g2];simpa using hu)
      simp only [RunsTo, rvRun];rw [g1];simpa [Instr.loadAt, Instr.sureAddr, asAddr] using hload
     ·simp at h
    ·simp at h
   ·simp at h
  ·simp at h
 | tmp d =>
  simp only [res1] at h;split at h
  ·rename_i k ls hk;split at h
   ·rename_i hc;simp only [X9, X1a] at hc;obtain ⟨hkind, hall⟩ := hc;split at h
    ·rename_i y has;simp at h;subst h;have k2 := Ya3 hr hk hall has;refine ⟨cs d, ?_, k2⟩;have hd : d < env.length := Yw hk;have hav := hr.av d;have e1 : (SS env noP tmps vs w cs bs).env d = .con k ls := by show ovl env noP d = _; rw [Y8 hd, hk]
     have e2 : (SS env noP tmps vs w cs bs).tm d = tmps.getD d undef := X4 (hlen ▸ hd);rw [e1, e2] at hav;obtain ⟨g1, _⟩ := hav;have hval : tmps.getD d undef = mkV t.isAgg (cs d) := by
      subst hkind;unfold Ty.kind at g1;split at g1
      ·rename_i ha;rw [ha];exact g1.1
      ·rename_i ha;have ha : t.isAgg = false := by simpa using ha
       rw [ha];rw [show cs d = [tmps.getD d undef] from g1.1];rfl
     simp only [RunsTo, rvRun];rw [hval];simp
    ·simp at h
   ·simp at h
  ·simp at h
def RunsTos (P : Program) (tmps : Array Value) (w : World) : List ResultVar -> List Value -> Prop
 | [], us => us = []
 | v :: vs, us => ∃ u us', us = u :: us' /\ RunsTo P tmps w v u /\ RunsTos P tmps w vs us'
theorem Y47 (hT : TabOk P T) (hlen : env.length = tmps.size) (hr : Rel c (SS env noP tmps vs w cs bs)) {base0 : Nat} (hS : ∀ b, (c.S0 b \/ c.mine b) -> (S b \/ base0 <= b)) {B : List Nat} (hB : ∀ b ∈ B, ∃ r l, b ∈ bs r l) :
  ∀ {rs : List (Ty × Lvl)} {vars : List ResultVar} {xs : List (Σ t : Ty, t.D)}, resN T env rs vars = some xs -> (∀ (i : Nat) (p : Ty × Lvl) (v : ResultVar), rs[i]? = some p -> vars[i]? = some v -> ∀ l, ∀ b ∈ bs (resTmp v) (l + 1), b ∉ resB1 cs bs p.1 p.2 (resTmp v) -> b ∉ B) ->
   ∃ chs, ResRel S base0 w B rs xs chs (resB cs bs rs vars) /\ RunsTos P tmps w vars (resVals rs chs)
 | [], [], xs, h, hne => by
  simp [resN] at h;subst h;exact ⟨[], ⟨rfl, rfl, rfl⟩, rfl⟩
 | [], v :: vars, xs, h, hne => by simp [resN] at h
 | p :: ps, [], xs, h, hne => by simp [resN] at h
 | (t, fr) :: ps, v :: vars, xs, h, hne => by
  simp [resN] at h;cases hx : res1 T env t fr v with
  | none => rw [hx] at h; simp at h
  | some x =>
   cases hxs : resN T env ps vars with
   | none => grind
   | some xs' =>
    rw [hx, hxs] at h;simp at h;subst h;obtain ⟨ch, k2, k4⟩ := Ye5 hT hlen hr hx;obtain ⟨chs, m1, m2⟩ := Y47 hT hlen hr hS hB hxs (fun i p v h1 h2 => hne (i + 1) p v h1 h2);refine ⟨ch :: chs, ⟨x, xs', ch, chs, _, _, rfl, rfl, rfl, ?_, m1⟩, ⟨_, _, rfl, k2, m2⟩⟩;refine k4 _ (fun b hb => ⟨hS b hb.2, fun hbB => ?_⟩) (fun l b hb hnb => ⟨hS b (.inr (hr.own _ _ _ hb).1), hne 0 _ _ rfl rfl l b hb hnb⟩);obtain ⟨r, l, h1⟩ := hB b hbB;exact hb.1 r l h1
theorem Y3m {α : Type} : ∀ {l : List α}, l.Nodup -> ∀ {i j : Nat} {x : α}, l[i]? = some x -> l[j]? = some x -> i = j
 | [], _, i, j, x, hi, _ => by simp at hi
 | a :: l, h, 0, 0, x, _, _ => rfl
 | a :: l, h, 0, j + 1, x, hi, hj => by grind
 | a :: l, h, i + 1, 0, x, hi, hj => by grind
 | a :: l, h, i + 1, j + 1, x, hi, hj => by rw [Y3m (X1q.1 h).2 hi hj]
theorem Y2s (hr : Rel c s) : ∀ {rs : List (Ty × Lvl)} {vars : List ResultVar}, (vars.map resTmp).Nodup -> (resB s.cs s.bs rs vars).Nodup
 | [], vars, _ => by simp [resB]
 | p :: ps, [], _ => by simp [resB]
 | p :: ps, v :: vars, hn => by
  simp only [X1y, X1q] at hn;refine X15.2 ⟨?_, Y2s hr hn.2, fun a ha b hb e => ?_⟩
  ·obtain ⟨t, fr⟩ := p;cases fr with
   | dp => exact Y2d (fun l => hr.nodup _ _) (fun l l' b h1 h2 => by have := (hr.disj _ _ _ _ _ h1 h2).2; omega) _ _
   | sh => exact Y2d (F := fun l => outB s.cs s.bs (resTmp v) (l + 1)) (fun l => (hr.nodup _ _).filter _) (fun l l' b h1 h2 => by have := (hr.disj _ _ _ _ _ (X1r.1 h1).1 (X1r.1 h2).1).2; omega) _ _
   | ro => exact X16
   | pn _ => exact X16
  ·subst e;obtain ⟨l, hl⟩ := Y8n ha;obtain ⟨i, p', v', l', _, h2, _, h4⟩ := Y1n hb;have := (hr.disj _ _ _ _ _ hl h4).1;exact hn.1 (by rw [this]; exact X19.2 ⟨v', X8 h2, rfl⟩)
theorem Ya4 : ∀ {l : List ResultVar} {us : List Value}, RunsTos P tmps w l us -> Sem.run P (l.mapM (rvRun tmps)) w = Result.ok us w
 | [], us, h => by rw [show us = [] from h]; simp
 | v :: l, us, ⟨u, us', e, h1, h2⟩ => by
  have ih := Ya4 h2;unfold RunsTo at h1;subst e;simp [X31, Sem.run_pure, X2t, ih, h1]
def outVal : List Value -> Value
 | [v] => v
 | vs => .tuple vs.toArray
theorem Y3c {l : List Value} (h : RunsTos P tmps w fn.results.toList l) : Sem.run P (results fn tmps) w = Result.ok (outVal l) w := by
 have h1 := Ya4 h;unfold results;rw [Array.mapM_eq_mapM_toList];simp only [X31, Sem.run_map];erw [h1];simp [X2t];cases l with
 | nil => simp [outVal]
 | cons x l => cases l with
  | nil => simp [outVal]
  | cons y l => simp [outVal]
theorem Yet {KR : List (Σ t : Ty, t.D) -> Option R} {rr : R} (hT : TabOk P T) (hO : OrcOk P sig orc) (hm : P.follows .mixedOrders = true) {dr : Array Oper -> Env -> (Env -> Option R) -> Option R} (hdraw : DrawHyp (R := R) T sig caps orc dr) (hf : P.funcs[f]? = some fn) (hb : fn.body = some code) {args : List RV} {res : List (Σ t : Ty, t.D)}
  (hmu : sg.muts = false) (hU : ∀ xs, KR xs = some rr -> xs = res) (h : evFn T sig caps orc dr fuel ann sg fn code args KR = some rr) : FnSpec P f sg.results args res := by
 intro S w vals hargs;unfold evFn at h;split at h
 ·rename_i as has;unfold entryAVs at has;rw [hmu] at has;split at h
  ·rename_i hc;obtain ⟨hle, hnd, _⟩ := hc;have hen := Yek hargs has hle;refine calls_of_wp hf hb ?_;refine Y2r hT hO hm hdraw (c := cx0 S w) (N := fn.ntmps) (D := []) (K := endK T sg fn (keepArgs sg args) KR) code hen (by simp; omega) rfl (fun e env' a' w' hK hr' hl' hd' => ?_) h;have fin : (match resN T (endPull sg fn env') sg.results fn.results.toList with | some xs => (match mutRes sg (keepArgs sg args) env' xs with | some ys => KR ys | none => none) | none => none) = some rr -> (a'.defers = [] /\ ∃ v, (results fn a'.tmps).run P w' = .ok v w' /\ (fun (e : Ending) (w' : World) => ∃ chs bs, e = .returned (resVal sg.results chs) /\ Below w.heap.size w w' /\ ResRel S w.heap.size w' bs sg.results res chs bs /\ bs.Nodup /\ ∀ b ∈ bs, w.heap.size <= b) (.returned v) w') := by
    intro hK;have hres : resN T (endPull sg fn env') sg.results fn.results.toList = some res := by
     cases hx : resN T (endPull sg fn env') sg.results fn.results.toList with
     | none => grind
     | some xs =>
      rw [hx] at hK;have : mutRes sg (keepArgs sg args) env' xs = some xs := by unfold mutRes; rw [hmu]
      simp [this] at hK;rw [hU xs hK]
    obtain ⟨vs, hR⟩ := hr';have hR2 : RP (cx0 S w) (endPull sg fn env') a'.tmps w' noP vs := by
     unfold endPull;rw [hmu];exact hR.pullRes (fun _ => .inl rfl) sg.results fn.results.toList
    obtain ⟨hlen, cs, bs, hrel, hno⟩ := hR2
    let B := resB cs bs sg.results fn.results.toList
    have hB : ∀ b ∈ B, ∃ r l, b ∈ bs r l := fun b hb => by
     obtain ⟨i, p, v, l, _, _, _, h4⟩ := Y1n hb;exact ⟨_, _, h4⟩
    obtain ⟨chs, m1, m2⟩ := Y47 hT (S := S) (base0 := w.heap.size) hlen hrel (fun b hb => hb.imp id (·.1)) hB hres (fun i p v h1 h2 l b hb hnb hbB => by
     obtain ⟨i', p', v', l', k1, k2, k3, k4⟩ := Y1n hbB;have hdd := (hrel.disj _ _ _ _ _ hb k4).1;have : i = i' := Y3m hnd (x := resTmp v) (by rw [X14, h2]; rfl) (by grind);subst this;rw [h1] at k1;simp at k1;subst k1;rw [h2] at k2;obtain rfl := Xs k2;exact hnb k3)
    refine ⟨hd', _, Y3c m2, chs, B, rfl, hrel.below, m1, Y2s hrel hnd, fun b hb => ?_⟩
    ·obtain ⟨r, l, h1⟩ := hB b hb;exact (hrel.own _ _ _ h1).1.1
   cases e with
   | ret => exact fin hK
   | normal => exact fin hK
   | _ => simp [endK] at hK
  ·simp at h
 ·simp at h
end
theorem Yf1 {x : t.D} {b0 : List Nat} {base k : Nat} {args : List RV} {vals : List Value} (hrep : Rep (fun _ => False) w t .dp [v] x b0) (hnd : b0.Nodup) (hb0 : ∀ b ∈ b0, base <= b) (hbase : base <= w.heap.size) (h : RVRels S w args vals) (hS : ∀ b, S b -> b ∉ b0) (hp : paramAVs args = some as) (hk : k <= as.length) (hn : as.length + 1 <= n) :
  RE (cxM S base w [v] b0) (insN k (.con .val [⟨t, x, .at_ .dp⟩]) as ++ List.replicate (n - (as.length + 1)) .skip) ((insN k v vals).toArray ++ Array.replicate (n - (insN k v vals).toArray.size) undef) w := by
 obtain ⟨k1, cs0, k2⟩ := Y5s (c := cxM S base w [v] b0) h hp
 let as' : List AV := insN k (.con .val [⟨t, x, .at_ .dp⟩]) as
 let vals' : List Value := insN k v vals
 have hasl : as'.length = as.length + 1 := Y52 _ _ _;have hvsl : vals'.length = as.length + 1 := by rw [<- k1]; exact Y52 _ _ _
 let env : Env := as' ++ List.replicate (n - (as.length + 1)) .skip
 let tmps : Array Value := vals'.toArray ++ Array.replicate (n - vals'.toArray.size) undef
 have hel : env.length = n := by grind
 have htl : tmps.size = n := by grind
 let cs : Nat -> List Value := fun r => if r < k then cs0 r else if r = k then [v] else cs0 (r - 1)
 let bs : Nat -> Nat -> List Nat := fun r l => if r = k /\ l = 1 then b0 else []
 let s : St := SS env noP tmps noV w cs bs
 have hbs : ∀ r l b, b ∈ bs r l -> r = k /\ l = 1 /\ b ∈ b0 := fun r l b hb => by grind
 have hRoS : ∀ b, S b -> RoS (cxM S base w [v] b0) s b := fun b hb => ⟨fun r l hm => hS b hb (hbs r l b hm).2.2, .inl hb⟩;have hget : ∀ r, r < as'.length -> ovl env noP r = get as' r /\ ovlT tmps noV r = vals'.getD r undef := fun r hr => by
  refine ⟨by rw [Y8 (by omega)]; exact Y2j _ _ _ hr, ?_⟩;show (if r < tmps.size then tmps.getD r undef else _) = _;rw [X4 (by omega)];have : r < vals'.length := by omega
  simp [tmps, this, Xy, X2z, Xh]
 have hav : ∀ r, AVRel (cxM S base w [v] b0) s r (ovl env noP r) (ovlT tmps noV r) /\ (ovl env noP r).refs = [] /\ (ovl env noP r).ptrs = [] := fun r => by
  by_cases h1 : r < as'.length
  ·rw [(hget r h1).1, (hget r h1).2];rw [show get as' r = _ from Y9l r hk, show vals'.getD r undef = _ from Y8g r (by omega)];have hbn : ∀ l, r ≠ k -> s.bs r l = [] := fun l hne => X2 (fun hh => hne hh.1);by_cases h2 : r < k
   ·rw [X4 h2, X4 h2];exact k2 r (by omega) s r rfl hRoS (fun l => hbn l (by omega)) (X4 h2)
   ·rw [X2 h2, X2 h2];by_cases h3 : r = k
    ·rw [X4 h3, X4 h3];subst h3;have ebs : s.bs r = fun l => if l = 1 then b0 else [] := by grind
     have ecs : s.cs r = [v] := by grind
     refine ⟨⟨⟨ecs, by rw [ebs]; rfl⟩, by rw [ecs]; rfl, fun l hl => ?_, fun l lf u hl hu => ?_⟩, by simp [AV.refs, Leaf.refs], by simp [AV.ptrs]⟩
     ·grind
     ·rw [ecs] at hu;have hl0 : l = 0 := by grind
      subst hl0;obtain rfl : lf = ⟨t, x, .at_ .dp⟩ := by simpa [leafAt] using hl.symm
      obtain rfl : u = v := by grind
      refine LeafRel.of_rep trivial ?_;rw [ebs];exact Rep.dpS hrep
    ·rw [X2 h3, X2 h3];exact k2 (r - 1) (by omega) s r rfl hRoS (fun l => hbn l h3) (by grind)
  ·have hbn : ∀ l, s.bs r l = [] := fun l => X2 (fun hh => by omega);by_cases h2 : r < n
   ·have e1 : ovl env noP r = .skip := by
     rw [Y8 (by omega)];show get (as' ++ _) r = _;rw [Y2k _ _ _ (by omega), Y6c _ _ _ (by omega)]
    have e2 : ovlT tmps noV r = undef := by
     show (if r < tmps.size then tmps.getD r undef else _) = _;rw [X4 (by omega)];simp only [tmps, Xy];rw [X2g (by simp; omega), X28];split <;> rfl
    rw [e1, e2];exact ⟨⟨rfl, hbn⟩, rfl, rfl⟩
   ·have e1 : ovl env noP r = .undef := by rw [Yt (by omega)]; rfl
    rw [e1];exact ⟨hbn, rfl, rfl⟩
 have hlt : ∀ b ∈ b0, b < w.heap.size := Rep.lt hrep;refine ⟨noV, by rw [hel, htl], cs, bs, ⟨X1g _ _, hbase, fun r l b hb => ?_, fun r l r' l' b hb hb' => ?_, fun r l => ?_, fun r => (hav r).1, fun b hb => ⟨hb.1, fun r l hm => ?_, rfl⟩⟩, fun r => ?_⟩
 ·obtain ⟨_, _, h⟩ := hbs r l b hb;exact ⟨⟨hb0 b h, fun hf => hf.2 h⟩, hlt b h⟩
 ·grind
 ·grind
 ·obtain ⟨_, _, h⟩ := hbs r l b hm;exact hb.2 h
 ·grind
section
variable {P : Program} {T : Tab}
theorem Ye6 {KR : List (Σ t : Ty, t.D) -> Option R} {rr : R} (hT : TabOk P T) (hO : OrcOk P sig orc) (hm : P.follows .mixedOrders = true) {dr : Array Oper -> Env -> (Env -> Option R) -> Option R} (hdraw : DrawHyp (R := R) T sig caps orc dr) (hf : P.funcs[f]? = some fn) (hb : fn.body = some code) {k : Nat} {x : t.D} {rest : List RV} {res : List (Σ t : Ty, t.D)}
  (hU : ∀ xs, KR xs = some rr -> xs = res) (h : evFnG T sig caps orc dr fuel ann k sg fn code (insN k (.val t x) rest) KR = some rr) : FnSpecG P f sg.results k t x rest res := by
 intro S w v vals b0 base hrep hnd0 hb0 hbase hargs hS;unfold evFnG at h;split at h
 ·rename_i t' x' rest' hsp;obtain ⟨e1, e2⟩ := Y6x (Y5j hsp).1;simp at e1;obtain ⟨rfl, e1⟩ := e1;obtain rfl : x = x' := X33 e1;subst e2;split at h
  ·rename_i as has;split at h
   ·rename_i hc;obtain ⟨⟨hle, hk, _⟩, hnd, hmu⟩ := hc;have hen := Yf1 hrep hnd0 hb0 hbase hargs hS has hk hle;refine calls_of_wp hf hb ?_;refine Y2r hT hO hm hdraw (c := cxM S base w [v] b0) (N := fn.ntmps) (D := []) (K := endK T sg fn [] KR) code hen (by simp [Y52]; omega) rfl (fun e env' a' w' hK hr' hl' hd' => ?_) (by simpa using h);have fin : (match resN T (endPull sg fn env') sg.results fn.results.toList with | some xs => (match mutRes sg [] env' xs with | some ys => KR ys | none => none) | none => none) = some rr -> (a'.defers = [] /\ ∃ v, (results fn a'.tmps).run P w' = .ok v w' /\ (fun (e : Ending) (w' : World) => ∃ chs bs, e = .returned (resVal sg.results chs) /\ Below base w w' /\ (∀ b, b < w.heap.size -> b ∉ b0 -> w'.heap[b]? = w.heap[b]?) /\ ResRel (fun _ => True) 0 w' bs sg.results res chs bs /\ bs.Nodup /\ ∀ b ∈ bs, b ∈ b0 \/ w.heap.size <= b) (.returned v) w') := by
     intro hK;have hres : resN T (endPull sg fn env') sg.results fn.results.toList = some res := by
      cases hx : resN T (endPull sg fn env') sg.results fn.results.toList with
      | none => grind
      | some xs =>
       rw [hx] at hK;have : mutRes sg [] env' xs = some xs := by unfold mutRes; rw [hmu]
       simp [this] at hK;rw [hU xs hK]
     obtain ⟨vs, hR⟩ := hr';have hR2 : RP (cxM S base w [v] b0) (endPull sg fn env') a'.tmps w' noP vs := by
      unfold endPull;rw [hmu];exact hR.pullRes (fun _ => .inl rfl) sg.results fn.results.toList
     obtain ⟨hlen, cs, bs, hrel, hno⟩ := hR2
     let B := resB cs bs sg.results fn.results.toList
     have hB : ∀ b ∈ B, ∃ r l, b ∈ bs r l := fun b hb => by
      obtain ⟨i, p, v, l, _, _, _, h4⟩ := Y1n hb;exact ⟨_, _, h4⟩
     obtain ⟨chs, m1, m2⟩ := Y47 hT (S := fun _ => True) (base0 := 0) hlen hrel (fun b hb => .inl trivial) hB hres (fun i p v h1 h2 l b hb hnb hbB => by
      obtain ⟨i', p', v', l', k1, k2, k3, k4⟩ := Y1n hbB;have hdd := (hrel.disj _ _ _ _ _ hb k4).1;have : i = i' := Y3m hnd (x := resTmp v) (by rw [X14, h2]; rfl) (by grind);subst this;rw [h1] at k1;simp at k1;subst k1;rw [h2] at k2;obtain rfl := Xs k2;exact hnb k3)
     refine ⟨hd', _, Y3c m2, chs, B, rfl, hrel.below, fun b hb hb2 => ((hrel.froz b ⟨hb, hb2⟩).2.2), m1, Y2s hrel hnd, fun b hb => ?_⟩;obtain ⟨r, l, h1⟩ := hB b hb;by_cases hb2 : b ∈ b0
     ·exact .inl hb2
     ·refine .inr (X1o fun hlt => ?_);exact (hrel.froz b ⟨hlt, hb2⟩).2.1 _ _ h1
    cases e with
    | ret => exact fin hK
    | normal => exact fin hK
    | _ => simp [endK] at hK
   ·simp at h
  ·simp at h
 ·simp at h
end
def BoxSig.fix (b : BoxSig) : List Bool := b.lv.map Slot.isFx
theorem Yd4 : ∀ (lv : List Slot) (l : Nat), nthB (lv.map Slot.isFx) l = true -> (slotAt lv l).isFx = true /\ l < lv.length
 | [], l, h => by simp [nthB] at h
 | s :: lv, 0, h => ⟨by simpa [nthB, slotAt] using h, by simp⟩
 | s :: lv, l + 1, h => by
  obtain ⟨h1, h2⟩ := Yd4 lv l (by simpa [nthB] using h);exact ⟨by simpa [slotAt] using h1, by simp; omega⟩
theorem Yd5 : ∀ (lv : List Slot) (l : Nat), (slotAt lv l).isFx = true -> nthB (lv.map Slot.isFx) l = true
 | [], l, h => by simp [slotAt, Slot.isFx] at h
 | s :: lv, 0, h => by simpa [nthB, slotAt] using h
 | s :: lv, l + 1, h => by simpa [nthB, slotAt] using Yd5 lv l (by simpa [slotAt] using h)
def paramBox (b : BoxSig) : RV -> Option AV
 | .ptr t x => some (.con (.box ⟨b.id, true, b.fix⟩) (leaves t x b.md 0))
 | _ => none
def RCap.cap (k : Nat) : RCap -> Cap
 | .ro x => .ro x
 | .pin => .path k 0
 | .self => .self
def paramAVX (b : BoxSig) : RV -> Option AV
 | .fptr f caps => some (.fptr f (caps.map (RCap.cap b.k)))
 | v => paramAV v
def paramAVsY (b : BoxSig) : List RV -> Option (List AV)
 | [] => some []
 | v :: r => match paramAVX b v, paramAVsY b r with
  | some a, some as => some (a :: as)
  | _, _ => none
def paramAVsX (b : BoxSig) : Nat -> List RV -> Option (List AV)
 | _, [] => none
 | 0, v :: r => match paramBox b v, paramAVsY b r with
  | some a, some as => some (a :: as)
  | _, _ => none
 | k + 1, v :: r => match paramAVX b v, paramAVsX b k r with
  | some a, some as => some (a :: as)
  | _, _ => none
def boxEnd (b : BoxSig) : Nat -> List Leaf -> Bool
 | _, [] => true
 | n, l :: ls => (l.m.settled && (match l.t with
  | .slice _ _ => (match slotAt b.lv n with
   | .dp => l.m == .at_ .dp
   | .sh => l.m == .at_ .sh
   | _ => true)
  | _ => true)) && boxEnd b (n + 1) ls
def boxVal (env : Env) (b : BoxSig) (t : Ty) : Option t.D := match get env b.k with
 | .con (.box e) ls => if (e.id = b.id /\ e.pin = true /\ e.fix = b.fix) /\ boxEnd b 0 ls = true then match asm t ls with
   | some (y, []) => some y
   | _ => none
  else none
 | _ => none
section
variable {R : Type} (T : Tab) (sig : FuncId -> Option Sig) (caps : FuncId -> List Ty) (orc : Orc)
def endB (sg : Sig) (b : BoxSig) (fn : Func) (t : Ty) (K : List (Σ t : Ty, t.D) -> Option R) : Exit -> Env -> Option R := fun e env =>
 match e with
 | .ret | .normal => match resN T env sg.results fn.results.toList with
  | some xs => match boxVal env b t with
   | some y => K (⟨t, y⟩ :: xs)
   | none => none
  | none => none
 | _ => none
def evFnB (dr : Array Oper -> Env -> (Env -> Option R) -> Option R) (fuel : Nat) (ann : Nat -> Option (List Nat)) (sg : Sig) (b : BoxSig) (fn : Func) (c : Code) (args : List RV) (K : List (Σ t : Ty, t.D) -> Option R) : Option R :=
 match paramAVsX b b.k args, nthL args b.k with
 | some as, some (.ptr t x) => if (as.length <= fn.ntmps /\ (b.k :: fn.results.toList.map resTmp).Nodup) /\ b.lv.length <= t.sz then evCode T sig caps orc dr fuel ann 0 c (as ++ List.replicate (fn.ntmps - as.length) .skip) (endB T sg b fn t K) else none
 | _, _ => none
end
def cxB (S : Nat -> Prop) (base : Nat) (w : World) (B : Nat) (ch : List Value) (bds : List (List Nat)) : Cx :=
 ⟨S, base, w, fun _ => default, fun k => k < w.heap.size /\ k ∉ B :: bds.flatten, .pointer (some ⟨B, 0, none⟩), fun l => ch.getD l default⟩
def ArgOkX (k : Nat) (pb : Value) (S : Nat -> Prop) (w : World) (c : Cx) (av : AV) (v : Value) (cells : List Value) : Prop :=
 ∀ (s : St) (r : Nat), s.w = w -> (∀ b, S b -> RoS c s b) -> (∀ l, s.bs r l = []) -> s.cs r = cells -> PtrRel s k 0 pb -> AVRel c s r av v /\ av.refs = [] /\ ∀ q ∈ av.ptrs, q = k
theorem Ya5 {k : Nat} {pb v : Value} (hw : s.w = w) (hS : ∀ b, S b -> RoS c s b) (hp : PtrRel s k 0 pb) : ∀ {rcs : List RCap} {us : List Value}, RCapRels S w pb v rcs us -> CapRels c s v (rcs.map (RCap.cap k)) us
 | [], us, h => h
 | rc :: rcs, us, ⟨u, us', e, h1, h2⟩ => by
  refine ⟨u, us', e, ?_, Ya5 hw hS hp h2⟩;cases rc with
  | ro x => exact PtrV.move (fun b hb _ => ⟨hS b hb, by rw [hw]⟩) h1
  | pin => rw [show u = pb from h1]; exact hp
  | self => exact h1
theorem Y6o {k : Nat} : ∀ {rcs : List RCap} {q : Nat}, q ∈ capRoots (rcs.map (RCap.cap k)) -> q = k
 | [], q, h => by simp [capRoots] at h
 | rc :: rcs, q, h => by
  simp [capRoots] at h;rcases h with h | h
  ·cases rc <;> simp [RCap.cap, Cap.roots] at h;exact h
  ·exact Y6o h
theorem Y8o {b : BoxSig} {pb : Value} {rv : RV} (h : RVRelX S w pb rv v) (hp : paramAVX b rv = some av) : ∃ cells, ArgOkX b.k pb S w c av v cells := by
 by_cases hf : ∃ f caps, rv = .fptr f caps
 ·obtain ⟨f, caps, rfl⟩ := hf;simp [paramAVX] at hp;subst hp;obtain ⟨B, us, rfl, h2, h3, h4, h5⟩ := h;refine ⟨[], fun s r hw hS hb hc hpr => ⟨⟨hb, us, B, rfl, hS _ h2, by rw [hw]; exact h3, by rw [hw]; exact h4, Ya5 hw hS hpr h5⟩, rfl, fun q hq => Y6o hq⟩⟩
 ·have h' : RVRel S w rv v /\ paramAV rv = some av := by
   cases rv with
   | fptr f caps => grind
   | _ => exact ⟨h, hp⟩
  obtain ⟨cells, h1⟩ := Ya1 (c := c) h'.1 h'.2;exact ⟨cells, fun s r hw hS hb hc _ => ⟨(h1 s r hw hS hb hc).1, (h1 s r hw hS hb hc).2.1, by rw [(h1 s r hw hS hb hc).2.2]; simp⟩⟩
theorem Y7r {S : Nat -> Prop} {w : World} {c : Cx} {b : BoxSig} {pb : Value} : ∀ {args : List RV} {vals : List Value} {as : List AV}, RVRelsY S w pb args vals -> paramAVsY b args = some as -> vals.length = as.length /\ ∃ cs : Nat -> List Value, ∀ r, r < as.length -> ArgOkX b.k pb S w c (get as r) (vals.getD r undef) (cs r)
 | [], vals, as, h, hp => by
  simp [paramAVsY] at hp;subst hp;exact ⟨by rw [show vals = [] from h]; rfl, fun _ => [], fun r hr => by simp at hr⟩
 | rv :: args, vals, as, ⟨v, vals', e, h1, h2⟩, hp => by
  simp [paramAVsY] at hp;cases ha : paramAVX b rv with
  | none => grind
  | some av =>
   cases has : paramAVsY b args with
   | none => simp_all
   | some as' =>
    rw [ha, has] at hp;simp at hp;subst hp; subst e;obtain ⟨k1, cs, k2⟩ := Y7r (c := c) h2 has;obtain ⟨cells, k3⟩ := Y8o (c := c) h1 ha;refine ⟨by simp [k1], fun r => match r with | 0 => cells | r + 1 => cs r, fun r hr => ?_⟩;cases r with
    | zero => exact k3
    | succ r => exact k2 r (by simpa using hr)
theorem Y7s {S : Nat -> Prop} {w : World} {c : Cx} {b : BoxSig} {pb : Value} : ∀ {k : Nat} {args : List RV} {vals : List Value} {as : List AV}, RVRelsX S w pb k args vals -> paramAVsX b k args = some as -> vals.length = as.length /\ k < as.length /\ (∃ t x, nthL args k = some (.ptr t x) /\ get as k = .con (.box ⟨b.id, true, b.fix⟩) (leaves t x b.md 0)) /\ ∃ cs : Nat -> List Value, ∀ r, r < as.length -> r ≠ k -> ArgOkX b.k pb S w c (get as r) (vals.getD r undef) (cs r)
 | k, [], vals, as, h, hp => by cases k <;> simp [paramAVsX] at hp
 | 0, rv :: args, vals, as, ⟨v, vals', e, h2⟩, hp => by
  simp [paramAVsX] at hp;cases ha : paramBox b rv with
  | none => simp_all
  | some av =>
   cases has : paramAVsY b args with
   | none => grind
   | some as' =>
    rw [ha, has] at hp;simp at hp;subst hp; subst e;obtain ⟨k1, cs, k2⟩ := Y7r (c := c) h2 has;refine ⟨by simp [k1], by simp, ?_, fun r => match r with | 0 => [] | r + 1 => cs r, fun r hr hne => ?_⟩
    ·cases rv with
     | ptr t x =>
      simp [paramBox] at ha;subst ha;exact ⟨t, x, rfl, rfl⟩
     | val _ _ => simp [paramBox] at ha
     | clo _ _ => simp [paramBox] at ha
     | fptr _ _ => simp [paramBox] at ha
    ·cases r with
     | zero => exact absurd rfl hne
     | succ r => exact k2 r (by simpa using hr)
 | k + 1, rv :: args, vals, as, ⟨v, vals', e, h1, h2⟩, hp => by
  simp [paramAVsX] at hp;cases ha : paramAVX b rv with
  | none => rw [ha] at hp; simp at hp
  | some av =>
   cases has : paramAVsX b k args with
   | none => rw [ha, has] at hp; simp at hp
   | some as' =>
    rw [ha, has] at hp;simp at hp;subst hp; subst e;obtain ⟨k1, k3, k4, cs, k2⟩ := Y7s (c := c) h2 has;obtain ⟨cells, k5⟩ := Y8o (c := c) h1 ha;refine ⟨by simp [k1], by simpa using k3, by simpa [nthL, get] using k4, fun r => match r with | 0 => cells | r + 1 => cs r, fun r hr hne => ?_⟩;cases r with
    | zero => exact k5
    | succ r => exact k2 r (by simpa using hr) (fun e => hne (by rw [e]))
theorem Yf2 {b : BoxSig} {x : t.D} {B : Nat} {ch : List Value} {bds : List (List Nat)} {base : Nat} {args : List RV} {vals : List Value} (hvk : vals[b.k]? = some (.pointer (some ⟨B, 0, none⟩))) (hBh : w.heap[B]? = some (.cells ch.toArray b.id (0, 0)))
  (hL : LvsRel S w (fun _ => True) (leaves t x b.md 0) ch bds) (hnd : (B :: bds.flatten).Nodup) (hb : ∀ k ∈ B :: bds.flatten, base <= k) (hbase : base <= w.heap.size) (h : RVRelsX S w (.pointer (some ⟨B, 0, none⟩)) b.k args vals) (hS : ∀ k, S k -> k ∉ B :: bds.flatten) (hp : paramAVsX b b.k args = some as) (ht : nthL args b.k = some (.ptr t x)) (hlv : b.lv.length <= t.sz) (hn : as.length <= n) :
  RE (cxB S base w B ch bds) (as ++ List.replicate (n - as.length) .skip) (vals.toArray ++ Array.replicate (n - vals.toArray.size) undef) w := by
 obtain ⟨k1, k3, ⟨t', x', q1, q2⟩, cs0, k2⟩ := Y7s (c := cxB S base w B ch bds) h hp;rw [ht] at q1;simp at q1;obtain ⟨rfl, q1⟩ := q1;subst q1;obtain ⟨l1, l2, l3⟩ := hL;obtain ⟨hBn, hnd2⟩ := X1q.1 hnd;obtain ⟨d1, d2⟩ := Y14 hnd2;have hsz : vals.toArray.size = as.length := by simpa using k1
 let env : Env := as ++ List.replicate (n - as.length) .skip
 let tmps : Array Value := vals.toArray ++ Array.replicate (n - vals.toArray.size) undef
 have hel : env.length = n := by grind
 have htl : tmps.size = n := by grind
 let cs : Nat -> List Value := fun r => if r = b.k then ch else cs0 r
 let bs : Nat -> Nat -> List Nat := fun r l => if r = b.k then (match l with | 0 => [B] | l + 1 => bds.getD l []) else []
 let s : St := SS env noP tmps noV w cs bs
 have hbs : ∀ r l k, k ∈ bs r l -> r = b.k /\ k ∈ B :: bds.flatten /\ (k ∈ (match l with | 0 => [B] | l + 1 => bds.getD l [])) := fun r l k hk => by
  simp only [bs] at hk;split at hk
  ·rename_i hr;refine ⟨hr, ?_, hk⟩;cases l with
   | zero => grind
   | succ l => exact X3 _ (Yi hk)
  ·simp at hk
 have hbsk : ∀ l, bs b.k l = (match l with | 0 => [B] | l + 1 => bds.getD l []) := fun l => X4 rfl;have hbso : ∀ r, r ≠ b.k -> ∀ l, bs r l = [] := fun r hr l => X2 hr;have hRoS : ∀ k, S k -> RoS (cxB S base w B ch bds) s k := fun k hk => ⟨fun r l hm => hS k hk (hbs r l k hm).2.1, .inl hk⟩;have hget : ∀ r, r < as.length -> ovl env noP r = get as r /\ ovlT tmps noV r = vals.getD r undef := fun r hr => by
  refine ⟨by rw [Y8 (by omega)]; exact Y2j _ _ _ hr, ?_⟩;show (if r < tmps.size then tmps.getD r undef else _) = _;rw [X4 (by omega)];have : r < vals.length := by omega
  simp [tmps, this, Xy, X2z, Xh]
 have hpk : PtrRel s b.k 0 (.pointer (some ⟨B, 0, none⟩)) := by
  refine ⟨_, _, B, (hget b.k k3).1.trans q2, (hget b.k k3).2.trans ?_, rfl⟩;rw [Xh, hvk]; rfl
 have hleaf : ∀ (l : Nat) (lf : Leaf) (u : Value), (leaves t x b.md 0)[l]? = some lf -> ch[l]? = some u -> ∃ m, lf.m = .at_ m /\ (∀ h, m ≠ .pn h) /\ Rep S w lf.t m [u] lf.x (bds.getD l []) := by
  intro l lf u hl hu;obtain ⟨m, hm, hrep⟩ := l3 l lf u trivial hl hu;refine ⟨m, hm, fun h' e => ?_, hrep⟩;subst e;rcases Y29 b.md t x 0 l lf hl with ⟨_, h2⟩ | ⟨_, h2⟩
  ·grind
  ·rw [hm] at h2; unfold BoxSig.md at h2; cases hq : slotAt b.lv (0 + l) <;> rw [hq] at h2 <;> cases h2
 have hav : ∀ r, AVRel (cxB S base w B ch bds) s r (ovl env noP r) (ovlT tmps noV r) /\ (ovl env noP r).refs = [] /\ ∀ q ∈ (ovl env noP r).ptrs, q = b.k := fun r => by
  by_cases h1 : r < as.length
  ·rw [(hget r h1).1, (hget r h1).2];by_cases hr : r = b.k
   ·subst hr;rw [q2];have hv : vals.getD b.k undef = .pointer (some ⟨B, 0, none⟩) := by grind
    rw [hv];have ecs : s.cs b.k = ch := X4 rfl;have hset : ∀ lf ∈ leaves t x b.md 0, lf.m.settled = true := by
     intro lf hlf;obtain ⟨l, hl⟩ := Xw hlf;have hlt : l < ch.length := by grind
     obtain ⟨m, hm, _⟩ := l3 l lf ch[l] trivial hl (X1 hlt);rw [hm]; rfl
    have hr0 := Yc (k := .box ⟨b.id, true, b.fix⟩) hset;refine ⟨⟨⟨B, rfl, by rw [ecs]; exact hBh, hbsk 0, fun _ => rfl, fun l hl => ?_⟩, by rw [ecs]; exact l1, fun l hl => ?_, fun l lf u hl hu => ?_⟩, hr0.1, by grind⟩
    ·rw [ecs];obtain ⟨_, h2⟩ := Yd4 b.lv l hl;have hlt : l < ch.length := by
      rw [<- l1];have := congrArg List.length (Y11 t x b.md 0);rw [X2m, Y22] at this;omega
     show ch[l]? = some (ch.getD l default);rw [Xh, X1 hlt]; rfl
    ·grind
    ·rw [Y1] at hl;rw [ecs] at hu;obtain ⟨m, e1, e2, e3⟩ := hleaf l lf u hl hu;obtain ⟨t1, x1, m1⟩ := lf;simp only at e1 e3;subst e1;refine LeafRel.of_rep (by cases m <;> first | trivial | exact absurd rfl (e2 _)) ?_;have h9 : bs b.k (l + 1) = bds.getD l [] := hbsk (l + 1);have h8 : Rep (RoS (cxB S base w B ch bds) s) w t1 m [u] x1 (bds.getD l []) := Rep.move (fun k hk _ => ⟨hRoS k hk, rfl⟩) (fun _ _ => rfl) e3;rw [<- h9] at h8;exact h8
   ·exact k2 r h1 hr s r rfl hRoS (fun l => hbso r hr l) (X2 hr) hpk
  ·by_cases h2 : r < n
   ·have e1 : ovl env noP r = .skip := by
     rw [Y8 (by omega)];show get (as ++ _) r = _;rw [Y2k _ _ _ (by omega), Y6c _ _ _ (by omega)]
    have e2 : ovlT tmps noV r = undef := by
     show (if r < tmps.size then tmps.getD r undef else _) = _;rw [X4 (by omega)];simp only [tmps, Xy];rw [X2g (by omega), X28];split <;> rfl
    rw [e1, e2];exact ⟨⟨rfl, fun l => hbso r (by omega) l⟩, rfl, by simp [AV.ptrs]⟩
   ·have e1 : ovl env noP r = .undef := by rw [Yt (by omega)]; rfl
    rw [e1];exact ⟨fun l => hbso r (by omega) l, rfl, by simp [AV.ptrs]⟩
 have hlt : ∀ k ∈ B :: bds.flatten, k < w.heap.size := by
  intro k hk;rcases Xq.1 hk with rfl | hk
  ·grind
  ·obtain ⟨bl, hbl, hkb⟩ := X35.1 hk;obtain ⟨l, hl⟩ := Xw hbl;have hll : l < bds.length := (X6.1 hl).1;obtain ⟨m, _, hrep⟩ := l3 l _ _ trivial (X1 (show l < (leaves t x b.md 0).length by omega)) (X1 (show l < ch.length by omega));refine Rep.lt hrep k ?_;rw [Xh, hl]; exact hkb
 refine ⟨noV, by rw [hel, htl], cs, bs, ⟨X1g _ _, hbase, fun r l k hk => ?_, fun r l r' l' k hk hk' => ?_, fun r l => ?_, fun r => (hav r).1, fun k hk => ⟨hk.1, fun r l hm => hk.2 (hbs r l k hm).2.1, rfl⟩⟩, fun r => ?_⟩
 ·obtain ⟨_, h2, _⟩ := hbs r l k hk;exact ⟨⟨hb k h2, fun hf => hf.2 h2⟩, hlt k h2⟩
 ·obtain ⟨rfl, _, h1⟩ := hbs r l k hk;obtain ⟨rfl, _, h2⟩ := hbs r' l' k hk';refine ⟨rfl, ?_⟩;cases l with
  | zero => cases l' with
   | zero => rfl
   | succ l' =>
    obtain rfl : k = B := by simpa using h1
    exact absurd (Yi h2) hBn
  | succ l => cases l' with
   | zero =>
    obtain rfl : k = B := by simpa using h2
    exact absurd (Yi h1) hBn
   | succ l' => rw [d2 l l' k h1 h2]
 ·grind
 ·grind
theorem Y8p {b : BoxSig} : ∀ {ls : List Leaf} {n l : Nat} {lf : Leaf}, boxEnd b n ls = true -> ls[l]? = some lf -> lf.m.settled = true /\ (∀ e τ, lf.t = .slice e τ -> (slotAt b.lv (n + l) = .dp -> lf.m = .at_ .dp) /\ (slotAt b.lv (n + l) = .sh -> lf.m = .at_ .sh))
 | [], n, l, lf, _, hl => by simp at hl
 | a :: ls, n, 0, lf, h, hl => by
  obtain rfl : a = lf := by simpa using hl
  simp [boxEnd] at h;refine ⟨h.1.1, fun e τ ht => ?_⟩;have := h.1.2;rw [ht] at this;rw [X2f];cases hs : slotAt b.lv n <;> rw [hs] at this <;> simp_all
 | a :: ls, n, l + 1, lf, h, hl => by
  simp [boxEnd] at h;have := Y8p (n := n + 1) (l := l) h.2 (by simpa using hl)
  rwa [show n + 1 + l = n + (l + 1) by omega] at this
section
variable {P : Program} {T : Tab}
theorem Ye7 {KR : List (Σ t : Ty, t.D) -> Option R} {rr : R} (hT : TabOk P T) (hO : OrcOk P sig orc) (hm : P.follows .mixedOrders = true) {dr : Array Oper -> Env -> (Env -> Option R) -> Option R} (hdraw : DrawHyp (R := R) T sig caps orc dr) (hf : P.funcs[f]? = some fn) (hb : fn.body = some code) {b : BoxSig} {x y : t.D} {args : List RV} {ys : List (Σ t : Ty, t.D)}
  (ht : nthL args b.k = some (.ptr t x)) (hU : ∀ xs, KR xs = some rr -> xs = ⟨t, y⟩ :: ys) (h : evFnB T sig caps orc dr fuel ann sg b fn code args KR = some rr) : FnSpecBox P f sg.results b t x args y ys := by
 intro S w vals B ch bds base hvk hBh hL hnd hbb hbase hargs hS;unfold evFnB at h;split at h
 ·rename_i as t' x' hp ht';rw [ht] at ht';simp at ht';obtain ⟨rfl, _⟩ := ht';split at h
  ·rename_i hc;obtain ⟨⟨hle, hndr⟩, hlv⟩ := hc;have hen := Yf2 hvk hBh hL hnd hbb hbase hargs hS hp ht hlv (n := fn.ntmps) hle;refine calls_of_wp hf hb ?_;refine Y2r hT hO hm hdraw (c := cxB S base w B ch bds) (N := fn.ntmps) (D := []) (K := endB T sg b fn t KR) code hen (by simp; omega) rfl (fun e env' a' w' hK hr' hl' hd' => ?_) h;have fin : (match resN T env' sg.results fn.results.toList with | some xs => (match boxVal env' b t with | some y => KR (⟨t, y⟩ :: xs) | none => none) | none => none) = some rr -> (a'.defers = [] /\ ∃ v, (results fn a'.tmps).run P w' = .ok v w' /\ (fun (e : Ending) (w' : World) => ∃ ch' bds' chs bs, e = .returned (resVal sg.results chs) /\ Below base w w' /\ (∀ k, k < w.heap.size -> k ∉ B :: bds.flatten -> w'.heap[k]? = w.heap[k]?) /\ w'.heap[B]? = some (.cells ch'.toArray b.id (0, 0)) /\ ch'.length = ch.length /\ (∀ l, (slotAt b.lv l).isFx = true -> ch'[l]? = ch[l]?) /\
     LvsRel (fun k => (S k \/ k ∈ bds.flatten \/ w.heap.size <= k) /\ k ∉ B :: (bds'.flatten ++ bs)) w' b.free (leaves t y b.md 0) ch' bds' /\ (∀ l, (slotAt b.lv l).isFx = true -> bds'.getD l [] = []) /\ (B :: (bds'.flatten ++ bs)).Nodup /\ (∀ k ∈ bds'.flatten ++ bs, k ∈ bds.flatten \/ w.heap.size <= k) /\
     ResRel (fun k => S k \/ k ∈ B :: bds.flatten) w.heap.size w' (B :: (bds'.flatten ++ bs)) sg.results ys chs bs) (.returned v) w') := by
    intro hK;cases hx : resN T env' sg.results fn.results.toList with
    | none => grind
    | some xs =>
     cases hv : boxVal env' b t with
     | none => grind
     | some y' =>
      rw [hx, hv] at hK;have := hU _ hK;simp at this;obtain ⟨rfl, rfl⟩ := this;obtain ⟨vs, hlen, cs, bs, hrel, hno⟩ := hr'
      -- the variable
      unfold boxVal at hv;split at hv
      ·rename_i e1 ls hg;split at hv
       ·rename_i hc1;obtain ⟨⟨c1, c2, c3⟩, hend⟩ := hc1;split at hv
        ·rename_i y1 has;simp at hv;subst hv;have hkl : b.k < env'.length := Yw hg;have hav := hrel.av b.k;rw [show (SS env' noP a'.tmps vs w' cs bs).env b.k = .con (.box e1) ls by show ovl env' noP b.k = _; rw [Y8 hkl]; exact hg] at hav;obtain ⟨⟨B1, g1, g2, g3, g4, g5⟩, h2, h3, h4⟩ := hav;have hBB : B1 = B := by
          have := g4 c2;rw [g1] at this;simpa [cxB] using this
         subst hBB;have g2 : w'.heap[B1]? = some (.cells (cs b.k).toArray b.id (0, 0)) := c1 ▸ g2;have g3 : bs b.k 0 = [B1] := g3;have h2 : ls.length = (cs b.k).length := h2;have hBin : B1 ∈ bs b.k 0 := by rw [g3]; simp
         obtain ⟨pre, e2, e3⟩ := Y6b b.md t 0 has;rw [Xf] at e2;subst e2;have hly : (leaves t y1 b.md 0).length = ls.length := by have := congrArg List.length e3; simpa using this.symm
         have hts : ∀ z : t.D, (leaves t z b.md 0).length = t.sz := fun z => by
          have := congrArg List.length (Y11 t z b.md 0)
          rwa [X2m, Y22] at this
         have hcl : (cs b.k).length = ch.length := by rw [<- h2, <- hly, hts, <- hL.1, hts]
         let F : Nat -> List Nat := fun l => match slotAt b.lv l with
          | .dp => bs b.k (l + 1)
          | .sh => bs b.k (l + 1)
          | _ => []
         have hF : ∀ l k, k ∈ F l -> k ∈ bs b.k (l + 1) := by
          intro l k hk;simp [F] at hk;split at hk <;> first | exact hk | simp at hk
         let bds' : List (List Nat) := (List.range (cs b.k).length).map F
         let bsx : List Nat := resB cs bs sg.results fn.results.toList
         have hndr1 := X1q.1 hndr;have hbx : ∀ k ∈ bsx, ∃ q l, q ≠ b.k /\ k ∈ bs q (l + 1) := fun k hk => by
          obtain ⟨i, p, v, l, _, h5, _, h6⟩ := Y1n hk;exact ⟨_, l, fun e => hndr1.1 (by rw [<- e]; exact X19.2 ⟨v, X8 h5, rfl⟩), h6⟩
         have hbd : ∀ k ∈ bds'.flatten, ∃ l, k ∈ bs b.k (l + 1) := fun k hk => by
          obtain ⟨l, _, h5⟩ := Y4w.1 hk;exact ⟨l, hF l k h5⟩
         have hLin : ∀ k ∈ B1 :: (bds'.flatten ++ bsx), ∃ q l, k ∈ bs q l := fun k hk => by
          rcases Xq.1 hk with rfl | hk
          ·exact ⟨_, _, hBin⟩
          ·rcases X5.1 hk with hk | hk
           ·obtain ⟨l, h5⟩ := hbd k hk; exact ⟨_, _, h5⟩
           ·obtain ⟨q, l, _, h5⟩ := hbx k hk; exact ⟨_, _, h5⟩
         have hmine : ∀ k, (cxB S base w B1 ch bds).mine k -> k ∈ B1 :: bds.flatten \/ w.heap.size <= k := fun k hk => by
          by_cases h5 : k < w.heap.size
          ·refine .inl (Xx fun h6 => hk.2 ⟨h5, h6⟩)
          ·exact .inr (X1o h5)
         have hRo : ∀ k, RoS (cxB S base w B1 ch bds) (SS env' noP a'.tmps vs w' cs bs) k -> (S k \/ k ∈ bds.flatten \/ w.heap.size <= k) /\ k ∉ B1 :: (bds'.flatten ++ bsx) := fun k hk => by
          refine ⟨?_, fun hm => by obtain ⟨q, l, h5⟩ := hLin k hm; exact hk.1 q l h5⟩;rcases hk.2 with h5 | h5
          ·exact .inl h5
          ·rcases hmine k h5 with h6 | h6
           ·rcases Xq.1 h6 with rfl | h6
            ·exact absurd hBin (hk.1 _ _)
            ·exact .inr (.inl h6)
           ·simp_all
         obtain ⟨chs, m1, m2⟩ := Y47 hT (S := fun k => S k \/ k ∈ B1 :: bds.flatten) (base0 := w.heap.size) (B := B1 :: (bds'.flatten ++ bsx)) hlen hrel (fun k hk => by
          rcases hk with hk | hk
          ·exact .inl (.inl hk)
          ·rcases hmine k hk with h6 | h6
           ·exact .inl (.inr h6)
           ·exact .inr h6) hLin hx (fun i p v q1 q2 l k hk hnk hkB => by
          have hvne : resTmp v ≠ b.k := fun e => hndr1.1 (by rw [<- e]; exact X19.2 ⟨v, X8 q2, rfl⟩);rcases Xq.1 hkB with rfl | hkB
          ·exact hvne (hrel.disj _ _ _ _ _ hk hBin).1
          ·rcases X5.1 hkB with hkB | hkB
           ·obtain ⟨l', h5⟩ := hbd k hkB;exact hvne (hrel.disj _ _ _ _ _ hk h5).1
           ·obtain ⟨i', p', v', l', k1, k2, k3, k4⟩ := Y1n hkB;have hdd := (hrel.disj _ _ _ _ _ hk k4).1;have : i = i' := Y3m hndr1.2 (x := resTmp v) (by rw [X14, q2]; rfl) (by simp_all);subst this;rw [q1] at k1;simp at k1;subst k1;rw [q2] at k2;obtain rfl := Xs k2;exact hnk k3)
         refine ⟨hd', _, Y3c m2, cs b.k, bds', chs, bsx, rfl, hrel.below, fun k hk hnk => (hrel.froz k ⟨hk, hnk⟩).2.2, g2, hcl, fun l hl => ?_, ⟨by rw [hly]; exact h2, by simp [bds'], fun l lf u hfree hl hu => ?_⟩, fun l hl => ?_, ?_, fun k hk => ?_, m1⟩
         ·have h5 : (cs b.k)[l]? = some (ch.getD l default) := g5 l (by rw [c3]; exact Yd5 _ _ hl);have hlt : l < ch.length := by rw [<- hcl]; exact (X6.1 h5).1
          rw [h5, Xh, X1 hlt]; rfl
         ·have hlt : l < ls.length := by rw [<- hly]; exact (X6.1 hl).1
          have hd : ls[l].dat = lf.dat := by
           have h5 := congrArg (fun z => z[l]?) e3;simp only [X14, hl, X1 hlt, X1w, X0] at h5;exact h5
          have h5 := h4 l ls[l] u (by rw [Y1]; exact X1 hlt) hu;obtain ⟨hset, hsl⟩ := Y8p hend (X1 hlt);rw [X13] at hsl;rw [Y37, X4 (show l < (cs b.k).length by rw [<- h2]; exact hlt)];have hmd := Y29 b.md t y1 0 l lf hl;rw [X13] at hmd;generalize ls[l] = lo at *;obtain ⟨t1, x1, m1⟩ := lo;obtain ⟨t2, x2, m2'⟩ := lf;simp [Leaf.dat] at hd;obtain ⟨rfl, hd⟩ := hd;have hd : x1 = x2 := X33 hd;subst hd;have hold : ∃ lv, m1 = .at_ lv /\ Rep (RoS (cxB S base w B1 ch bds) (SS env' noP a'.tmps vs w' cs bs)) w' t1 lv [u] x1 (bs b.k (l + 1)) := by
           cases m1 with
           | at_ lv => exact ⟨lv, rfl, h5.rep⟩
           | bor _ _ _ => simp [Mode.settled] at hset
           | dead => simp [Mode.settled] at hset
          obtain ⟨lv, rfl, hrep⟩ := hold;simp only at hmd hsl;rcases hmd with ⟨hff, hmm⟩ | ⟨⟨e0, τ, hs⟩, hmm⟩
          ·subst hmm;obtain ⟨z1, z2⟩ := Rep.flat (S' := fun k => (S k \/ k ∈ bds.flatten \/ w.heap.size <= k) /\ k ∉ B1 :: (bds'.flatten ++ bsx)) (w' := w') (m' := .ro) hff hrep;refine ⟨.ro, rfl, ?_⟩;have hFn : F l = [] := by
            simp [F]; split <;> first | exact z1 | rfl
           rw [hFn]; exact z2
          ·obtain ⟨u1, u2⟩ := hsl e0 τ hs;have hmove : ∀ {lv' : Lvl}, Rep (RoS (cxB S base w B1 ch bds) (SS env' noP a'.tmps vs w' cs bs)) w' t1 lv' [u] x1 (bs b.k (l + 1)) -> Rep (fun k => (S k \/ k ∈ bds.flatten \/ w.heap.size <= k) /\ k ∉ B1 :: (bds'.flatten ++ bsx)) w' t1 lv' [u] x1 (bs b.k (l + 1)) := fun hr' => Rep.move (fun k hk _ => ⟨hRo k hk, rfl⟩) (fun _ _ => rfl) hr';subst hmm;unfold BoxSig.free at hfree;cases hq : slotAt b.lv l with
           | fx => rw [hq] at hfree; cases hfree
           | dp =>
            obtain rfl : lv = .dp := by simpa using u1 hq
            refine ⟨.dp, by unfold BoxSig.md; rw [hq]; rfl, ?_⟩;rw [show F l = bs b.k (l + 1) by simp [F, hq]];exact hmove hrep
           | sh =>
            obtain rfl : lv = .sh := by simpa using u2 hq
            refine ⟨.sh, by unfold BoxSig.md; rw [hq]; rfl, ?_⟩;rw [show F l = bs b.k (l + 1) by simp [F, hq]];exact hmove hrep
           | ro =>
            refine ⟨.ro, by unfold BoxSig.md; rw [hq]; rfl, ?_⟩;rw [show F l = [] by simp [F, hq]];refine Rep.roS hrep (fun k hk _ => hRo k hk) (fun k hk => ⟨?_, fun hm => ?_⟩)
            ·rcases hmine k (hrel.own _ _ _ hk).1 with h6 | h6
             ·rcases Xq.1 h6 with rfl | h6
              ·have := (hrel.disj _ _ _ _ _ hBin hk).2; omega
              ·exact .inr (.inl h6)
             ·exact .inr (.inr h6)
            ·rcases Xq.1 hm with rfl | hm
             ·have := (hrel.disj _ _ _ _ _ hBin hk).2; omega
             ·rcases X5.1 hm with hm | hm
              ·obtain ⟨l', _, h7⟩ := Y4w.1 hm;have := (hrel.disj _ _ _ _ _ hk (hF l' k h7)).2;obtain rfl : l = l' := by omega
               simp only [F, hq] at h7;simp at h7
              ·obtain ⟨q', l', h7, h8⟩ := hbx _ hm;exact h7 (hrel.disj _ _ _ _ _ h8 hk).1
         ·rw [Y37];split
          ·simp [F];cases hs : slotAt b.lv l <;> rw [hs] at hl <;> first | rfl | cases hl
          ·rfl
         ·refine X1q.2 ⟨fun hm => ?_, X15.2 ⟨Y46 (fun l => ?_) (fun l l' k h5 h6 => ?_) _, Y2s hrel hndr1.2, fun k hk k' hk' e => ?_⟩⟩
          ·rcases X5.1 hm with hm | hm
           ·obtain ⟨l, h5⟩ := hbd _ hm;have := (hrel.disj _ _ _ _ _ hBin h5).2; omega
           ·obtain ⟨q, l, h5, h6⟩ := hbx _ hm;exact h5 (hrel.disj _ _ _ _ _ h6 hBin).1
          ·simp [F];split <;> first | exact hrel.nodup _ _ | exact X16
          ·have := (hrel.disj _ _ _ _ _ (hF l k h5) (hF l' k h6)).2; omega
          ·subst e;obtain ⟨l, h5⟩ := hbd _ hk;obtain ⟨q, l', h6, h7⟩ := hbx _ hk';exact h6 (hrel.disj _ _ _ _ _ h7 h5).1
         ·obtain ⟨q, l, h5⟩ := hLin k (X3 _ hk);rcases hmine k (hrel.own _ _ _ h5).1 with h6 | h6
          ·rcases Xq.1 h6 with rfl | h6
           ·exfalso;rcases X5.1 hk with hk | hk
            ·obtain ⟨l', h7⟩ := hbd _ hk;have := (hrel.disj _ _ _ _ _ hBin h7).2; omega
            ·obtain ⟨q', l', h7, h8⟩ := hbx _ hk;exact h7 (hrel.disj _ _ _ _ _ h8 hBin).1
           ·exact .inl h6
          ·exact .inr h6
        ·simp at hv
       ·simp at hv
      ·simp at hv
   cases e with
   | ret => exact fin hK
   | normal => exact fin hK
   | _ => simp [endB] at hK
  ·simp at h
 ·simp at h
end
section
variable {P : Program} {T : Tab}
theorem Yc4 (hrel : Rel c s) {r : Nat} {y : t.D} (h : newVal id t (s.env r) = some y) : ∃ B, s.tm r = .pointer (some ⟨B, 0, none⟩) /\ B ∈ s.bs r 0 /\ s.w.heap[B]? = some (.cells (s.cs r).toArray id (0, 0)) /\ Rep (RoS c s) s.w t .ro (s.cs r) y [] := by
 unfold newVal at h;split at h
 ·rename_i e ls hg;split at h
  ·rename_i hc;obtain ⟨hid, hall⟩ := hc;split at h
   ·rename_i y' has;simp at h;subst h;have hav := hrel.av r;rw [hg] at hav;obtain ⟨⟨B, g1, g2, g3, _⟩, h2, h3, h4⟩ := hav;refine ⟨B, g1, by rw [g3]; simp, by rw [<- hid]; exact g2, ?_⟩;obtain ⟨c0, c1, e0, e1, e2, _⟩ := Y30 (S := RoS c s) (w := s.w) t has h2 (fun l lf u hl hu => by
     have h6 := h4 l lf u (by rw [Y1]; exact hl) hu;have hm : lf.m = .at_ .ro := by grind
     have := h6.held (by rw [hm]; rfl);obtain ⟨t1, x1, m1⟩ := lf;simp only at hm;subst hm;exact this.2)
    have hc1 : c1 = [] := Xn.1 (by rw [<- e1]; rfl);subst hc1;rw [Xf] at e0;rw [e0]; exact e2
   ·simp at h
  ·simp at h
 ·simp at h
theorem Ye8 {KR : List (Σ t : Ty, t.D) -> Option R} {rr : R} (hT : TabOk P T) (hO : OrcOk P sig orc) (hm : P.follows .mixedOrders = true) {dr : Array Oper -> Env -> (Env -> Option R) -> Option R} (hdraw : DrawHyp (R := R) T sig caps orc dr) (hf : P.funcs[f]? = some fn) (hb : fn.body = some code) {y : t.D} {ys : List (Σ t : Ty, t.D)} {args : List RV}
  (hU : ∀ xs, KR xs = some rr -> xs = ⟨t, y⟩ :: ys) (h : evFnN T sig caps orc dr fuel ann id t rs fn code args KR = some rr) : FnSpecNew P f id rs t args y ys := by
 intro S w vals hargs;unfold evFnN at h;split at h
 ·rename_i as has;split at h
  ·rename_i hc;obtain ⟨hle, hnd⟩ := hc;have hen := Yek hargs has hle;refine calls_of_wp hf hb ?_;refine Y2r hT hO hm hdraw (c := cx0 S w) (N := fn.ntmps) (D := []) (K := endN T id t rs fn KR) code hen (by simp; omega) rfl (fun e env0 a' w' hK hr' hl' hd' => ?_) h;have fin : (match fn.results.toList with
     | .tmp d :: vs => match resN T (pullRes rs vs env0) rs vs with
      | some xs => (match get (pullRes rs vs env0) d with
       | .path r 0 => match newVal id t (get (pullRes rs vs env0) r) with
        | some y => KR (⟨t, y⟩ :: xs)
        | none => none
       | v => match newVal id t v with
        | some y => KR (⟨t, y⟩ :: xs)
        | none => none)
      | none => none
     | _ => none) = some rr -> (a'.defers = [] /\ ∃ v, (results fn a'.tmps).run P w' = .ok v w' /\ (fun (e : Ending) (w' : World) => ∃ B ch chs bs, e = .returned (newRes B rs chs) /\ Below w.heap.size w w' /\ w.heap.size <= B /\ w'.heap[B]? = some (.cells ch.toArray id (0, 0)) /\ Rep (fun k => (S k \/ w.heap.size <= k) /\ k ∉ B :: bs) w' t .ro ch y [] /\
  ResRel S w.heap.size w' (B :: bs) rs ys chs bs /\ (B :: bs).Nodup /\ ∀ b ∈ bs, w.heap.size <= b) (.returned v) w') := by
    intro hK;split at hK
    ·rename_i d rvs hres;split at hK
     ·rename_i xs hxs;obtain ⟨vs, hR⟩ := hr';have hR2 : RP (cx0 S w) (pullRes rs rvs env0) a'.tmps w' noP vs := hR.pullRes (fun _ => .inl rfl) rs rvs;generalize pullRes rs rvs env0 = env' at *;obtain ⟨hlen, cs, bs, hrel, hno⟩ := hR2;have hnd2 : (rvs.map resTmp).Nodup := by
       rw [hres] at hnd;exact (X1q.1 hnd).2
      let B := resB cs bs rs rvs
      have hB : ∀ b ∈ B, ∃ r l, b ∈ bs r (l + 1) := fun b hb => by
       obtain ⟨i, p, v, l, _, _, h3, h4⟩ := Y1n hb;exact ⟨_, _, h4⟩
      have key : ∀ (q : Nat), newVal id t (get env' q) = some y -> xs = ys -> q < env'.length -> a'.tmps.getD d undef = a'.tmps.getD q undef -> (a'.defers = [] /\ ∃ v, (results fn a'.tmps).run P w' = .ok v w' /\ (fun (e : Ending) (w' : World) => ∃ B ch chs bs, e = .returned (newRes B rs chs) /\ Below w.heap.size w w' /\ w.heap.size <= B /\ w'.heap[B]? = some (.cells ch.toArray id (0, 0)) /\ Rep (fun k => (S k \/ w.heap.size <= k) /\ k ∉ B :: bs) w' t .ro ch y [] /\
  ResRel S w.heap.size w' (B :: bs) rs ys chs bs /\ (B :: bs).Nodup /\ ∀ b ∈ bs, w.heap.size <= b) (.returned v) w') := by
       intro q hv hxy hq htd;subst hxy;have e1 : (SS env' noP a'.tmps vs w' cs bs).env q = get env' q := by show ovl env' noP q = _; rw [Y8 hq]
       obtain ⟨Bx, k1, k2, k3, k4⟩ := Yc4 hrel (r := q) (id := id) (t := t) (y := y) (by rw [e1]; exact hv);have k1 : a'.tmps.getD q undef = .pointer (some ⟨Bx, 0, none⟩) := by rw [<- k1]; exact (X4 (by omega)).symm
       have k2 : Bx ∈ bs q 0 := k2;have hBn : Bx ∉ B := fun hm => by
        obtain ⟨r, l, h1⟩ := hB Bx hm;have := (hrel.disj _ _ _ _ _ k2 h1).2;omega
       obtain ⟨chs, m1, m2⟩ := Y47 hT (S := S) (base0 := w.heap.size) (B := Bx :: B) hlen hrel (fun b hb => hb.imp (fun h => h) (·.1)) (fun b hb => by
        rcases Xq.1 hb with rfl | hb
        ·exact ⟨q, 0, k2⟩
        ·obtain ⟨r, l, h1⟩ := hB b hb; exact ⟨r, l + 1, h1⟩) hxs (fun i p v h1 h2 l b hb hnb hbB => by
        rcases Xq.1 hbB with rfl | hbB
        ·have := (hrel.disj _ _ _ _ _ hb k2).2;omega
        obtain ⟨i', p', v', l', g1, g2, g3, g4⟩ := Y1n hbB;have hdd := (hrel.disj _ _ _ _ _ hb g4).1;have : i = i' := Y3m hnd2 (x := resTmp v) (by rw [X14, h2]; rfl) (by rw [X14, g2, hdd]; rfl);subst this;rw [h1] at g1;simp only [X0] at g1;subst g1;rw [h2] at g2;obtain rfl := Xs g2;exact hnb g3)
       have hmv : ∀ k, RoS (cx0 S w) (SS env' noP a'.tmps vs w' cs bs) k -> k < w'.heap.size -> ((S k \/ w.heap.size <= k) /\ k ∉ Bx :: B) /\ w'.heap[k]? = w'.heap[k]? := fun k hk _ => by
        refine ⟨⟨hk.2.imp (fun h => h) (·.1), fun e => ?_⟩, rfl⟩;rcases Xq.1 e with rfl | e
        ·exact hk.1 _ _ k2
        ·obtain ⟨r, l, h1⟩ := hB k e;exact hk.1 _ _ h1
       refine ⟨hd', newRes Bx rs chs, ?_, Bx, cs q, chs, B, rfl, hrel.below, (hrel.own _ _ _ k2).1.1, k3, Rep.move hmv (fun _ _ => rfl) k4, m1, X1q.2 ⟨hBn, Y2s hrel hnd2⟩, fun b hb => ?_⟩
       ·have h1 := Y3c (P := P) (fn := fn) (tmps := a'.tmps) (w := w') (l := .pointer (some ⟨Bx, 0, none⟩) :: resVals rs chs) (by
         rw [hres];refine ⟨_, _, rfl, ?_, m2⟩;simp only [RunsTo, rvRun];rw [htd, k1]; simp)
        have h2 : outVal (.pointer (some ⟨Bx, 0, none⟩) :: resVals rs chs) = newRes Bx rs chs := by
         cases rs with
         | nil => rfl
         | cons p ps =>
          obtain ⟨x, xs', ch, chs', b, b', e1, rfl, _⟩ := m1;rfl
        rw [h2] at h1;exact h1
       ·obtain ⟨r, l, h1⟩ := hB b hb;exact (hrel.own _ _ _ h1).1.1
      split at hK
      ·rename_i r hg;split at hK
       ·rename_i y' hv;have := hU _ hK;simp only [X2o, Sigma.mk.injEq, heq_eq_eq, true_and] at this;obtain ⟨rfl, hxy⟩ := this;have hd : d < env'.length := by
         apply Xx;intro h;rw [Y1d env' d (X1o h)] at hg;cases hg
        have hav := hrel.av d;rw [show (SS env' noP a'.tmps vs w' cs bs).env d = .path r 0 by show ovl env' noP d = _; rw [Y8 hd]; exact hg] at hav;obtain ⟨_, e', ls', B', p1, p2, p3⟩ := hav;have hq : r < env'.length := by
         have := (hno d).2 r (by rw [Y8 hd, hg]; simp [AV.ptrs]);exact this
        refine key r hv hxy hq ?_;have p2 : a'.tmps.getD r undef = .pointer (some ⟨B', 0, none⟩) := (X4 (show r < a'.tmps.size by omega)).symm.trans p2;have p3 : a'.tmps.getD d undef = .pointer (some ⟨B', 0, none⟩) := (X4 (show d < a'.tmps.size from hlen ▸ hd)).symm.trans p3;rw [p2, p3]
       ·simp at hK
      ·rename_i hne;split at hK
       ·rename_i y' hv;have := hU _ hK;simp only [X2o, Sigma.mk.injEq, heq_eq_eq, true_and] at this;obtain ⟨rfl, hxy⟩ := this;have hd : d < env'.length := by
         apply Xx;intro h;rw [Y1d env' d (X1o h)] at hv;simp [newVal] at hv
        exact key d hv hxy hd rfl
       ·simp at hK
     ·simp at hK
    ·simp at hK
   cases e with
   | ret => exact fin hK
   | normal => exact fin hK
   | _ => simp [endN] at hK
  ·simp at h
 ·simp at h
end
abbrev Foot1 := Option (Nat × List Nat)
abbrev Foot := Option (List Nat × List Nat)
def Dis : Foot -> Foot -> Prop
 | some (W, R), some (W', R') => (∀ w ∈ W, w ∉ W' /\ w ∉ R') /\ (∀ w ∈ W', w ∉ R)
 | _, _ => False
def puts : Env -> List Nat -> List AV -> Env
 | env, w :: W, v :: vs => puts (put env w v) W vs
 | env, _, _ => env
theorem Ya6 : ∀ (env : Env) {a b : Nat} (u v : AV), a ≠ b -> put (put env a u) b v = put (put env b v) a u
 | [], a, b, u, v, h => by cases a <;> cases b <;> rfl
 | x :: env, 0, 0, u, v, h => absurd rfl h
 | x :: env, 0, b + 1, u, v, h => rfl
 | x :: env, a + 1, 0, u, v, h => rfl
 | x :: env, a + 1, b + 1, u, v, h => by
  show x :: put (put env a u) b v = x :: put (put env b v) a u;rw [Ya6 env u v (fun e => h (by rw [e]))]
theorem Y25 : ∀ (W : List Nat) (vs : List AV) (env : Env), (puts env W vs).length = env.length
 | [], _, _ => by simp [puts]
 | w :: W, [], _ => rfl
 | w :: W, v :: vs, env => by simp [puts]; rw [Y25 W vs, Y5]
theorem Yz {r : Nat} : ∀ {W : List Nat} {vs : List AV} {env : Env}, r ∉ W -> get (puts env W vs) r = get env r
 | [], vs, env, h => by simp [puts]
 | w :: W, [], env, h => rfl
 | w :: W, v :: vs, env, h => by
  simp at h;simp [puts];rw [Yz h.2, Y12, X2 (fun e => h.1 e.1)]
theorem Y4s {r : Nat} : ∀ {W : List Nat} {vs : List AV} {env env' : Env}, r ∈ W -> vs.length = W.length -> env.length = env'.length -> get (puts env W vs) r = get (puts env' W vs) r
 | [], vs, env, env', h, _, _ => by simp at h
 | w :: W, [], env, env', h, hl, _ => by simp at hl
 | w :: W, v :: vs, env, env', h, hl, he => by
  simp [puts];by_cases hr : r ∈ W
  ·exact Y4s hr (by simpa using hl) (by rw [Y5, Y5, he])
  ·rw [Yz hr, Yz hr, Y12, Y12, he];have hw : r = w := by grind
   by_cases hlt : w < env'.length
   ·grind
   ·rw [X2 (fun e => hlt e.2), X2 (fun e => hlt e.2), Y1d _ _ (by omega), Y1d _ _ (by omega)]
theorem Ya7 {w : Nat} {v : AV} : ∀ {W : List Nat} {vs : List AV} {env : Env}, w ∉ W -> puts (put env w v) W vs = put (puts env W vs) w v
 | [], vs, env, h => by simp [puts]
 | w' :: W, [], env, h => rfl
 | w' :: W, v' :: vs, env, h => by
  simp at h;simp [puts];rw [Ya6 env v v' h.1, Ya7 h.2]
theorem Y8q : ∀ {W W' : List Nat} {vs vs' : List AV} {env : Env}, (∀ w ∈ W, w ∉ W') -> puts (puts env W vs) W' vs' = puts (puts env W' vs') W vs
 | [], W', vs, vs', env, h => by simp [puts]
 | w :: W, W', [], vs', env, h => by simp [puts]
 | w :: W, W', v :: vs, vs', env, h => by
  simp [puts];rw [Y8q (fun w' hw' => h w' (X3 _ hw')), Ya7 (h w Xo)]
section
variable (J : Nat -> AV -> Prop) (step : Nat -> Env -> Option Env) (foot : Nat -> Env -> Foot)
def AllJ (env : Env) : Prop := ∀ r, J r (get env r)
def Mild : Prop := ∀ i env W Rd env', AllJ J env -> foot i env = some (W, Rd) -> step i env = some env' -> ∃ vs, vs.length = W.length /\ env' = puts env W vs /\ ∀ env2 : Env, AllJ J env2 -> env2.length = env.length -> (∀ k ∈ W ++ Rd, get env2 k = get env k) -> step i env2 = some (puts env2 W vs) /\ foot i env2 = some (W, Rd)
def Trace : List Nat -> Env -> Env -> (Nat -> Foot) -> Prop
 | [], e, E, _ => AllJ J e /\ e = E
 | i :: l, e, E, φ => AllJ J e /\ foot i e = φ i /\ ∃ e1, step i e = some e1 /\ Trace l e1 E φ
variable {J step foot}
theorem Trace.all {l : List Nat} {e E : Env} {φ : Nat -> Foot} (h : Trace J step foot l e E φ) : AllJ J e := by
 cases l with
 | nil => exact h.1
 | cons i l => exact h.1
theorem Trace.swap (hM : Mild J step foot) {x y : Nat} {l : List Nat} {e E : Env} {φ : Nat -> Foot} (h : Trace J step foot (x :: y :: l) e E φ) (hd : Dis (φ x) (φ y)) : Trace J step foot (y :: x :: l) e E φ := by
 obtain ⟨je, fx, e1, sx, je1, fy, e2, sy, ht⟩ := h;have je2 := ht.all;cases hφx : φ x with
 | none => rw [hφx] at hd; exact hd.elim
 | some p =>
  cases hφy : φ y with
  | none => rw [hφx, hφy] at hd; exact hd.elim
  | some q =>
   obtain ⟨W, R⟩ := p;obtain ⟨W', R'⟩ := q;rw [hφx, hφy] at hd;obtain ⟨d1, d2⟩ := hd;rw [hφx] at fx;rw [hφy] at fy;obtain ⟨vs, lx, rfl, kx⟩ := hM x e W R e1 je fx sx;obtain ⟨vs', ly, rfl, ky⟩ := hM y (puts e W vs) W' R' e2 je1 fy sy;have dW : ∀ w ∈ W', w ∉ W := fun w hw hw' => (d1 w hw').1 hw;obtain ⟨a1, a2⟩ := ky e je (Y25 _ _ _).symm (fun k hk => by
    rw [Yz];intro hkW;rcases X5.1 hk with hk | hk
    ·grind
    ·grind)
   have je' : AllJ J (puts e W' vs') := fun r => by
    by_cases hr : r ∈ W'
    ·rw [Y4s hr ly (Y25 W vs e).symm];exact je2 r
    ·rw [Yz hr]; exact je r
   obtain ⟨b1, b2⟩ := kx (puts e W' vs') je' (Y25 _ _ _) (fun k hk => by
    rw [Yz];intro hkW;rcases X5.1 hk with hk | hk
    ·grind
    ·grind)
   refine ⟨je, a2.trans hφy.symm, _, a1, je', b2.trans hφx.symm, _, b1, ?_⟩;rw [Y8q (fun w hw => dW w hw)];exact ht
theorem Trace.move (hM : Mild J step foot) {x : Nat} {B : List Nat} {E : Env} {φ : Nat -> Foot} : ∀ {A : List Nat} {e : Env}, Trace J step foot (x :: (A ++ B)) e E φ -> (∀ a ∈ A, Dis (φ x) (φ a)) -> Trace J step foot (A ++ x :: B) e E φ
 | [], e, h, _ => h
 | a :: A, e, h, hd => by
  obtain ⟨k0, k1, e1, k2, k3⟩ := Trace.swap hM h (hd a (by simp));exact ⟨k0, k1, e1, k2, Trace.move hM k3 (fun a' ha' => hd a' (by simp [ha']))⟩
theorem Trace.reorder (hM : Mild J step foot) {E : Env} {φ : Nat -> Foot} : ∀ {l π : List Nat} {e : Env}, l.Pairwise (· < ·) -> π.Perm l -> π.Pairwise (fun a x => x < a -> Dis (φ x) (φ a)) -> Trace J step foot l e E φ -> Trace J step foot π e E φ
 | [], π, e, _, hp, _, h => by simp_all
 | x :: l, π, e, hs, hp, hg, ⟨k0, k1, e1, k2, k3⟩ => by
  have hx : x ∈ π := hp.symm.subset (by simp);obtain ⟨A, B, rfl⟩ := List.append_of_mem hx;have hp' : (A ++ B).Perm l := by
   have h1 : (x :: (A ++ B)).Perm (x :: l) := List.perm_middle.symm.trans hp;exact List.Perm.cons_inv h1
  have hs' := X1f.1 hs;have hsub : (A ++ B).Sublist (A ++ x :: B) := List.Sublist.append_left (List.sublist_cons_self x B) A;have hrec := Trace.reorder hM hs'.2 hp' (hg.sublist hsub) k3;refine Trace.move hM ⟨k0, k1, e1, k2, hrec⟩ (fun a ha => ?_);have hax : x < a := hs'.1 a (hp'.subset (Xc _ ha));exact (List.pairwise_append.1 hg).2.2 a ha x (by simp) hax
end
def unl (n : Nat) (listed : Array Bool) : List Nat := (List.range n).filter fun i => !listed.getD i true
theorem Y94 (m : Region.Mode) (ops : Array Oper) : ∀ (fuel t : Nat) (listed : Array Bool) (acc : List Nat), Region.linearise.go m ops fuel t listed acc = acc.reverse ++ Region.linearise.go m ops fuel t listed [] := linearise_go_acc m ops
theorem Yeu {listed : Array Bool} (hs : listed.size = n) {i : Nat} (hi : i ∈ unl n listed) : (unl n listed).Perm (i :: unl n (listed.setIfInBounds i true)) := by
 have hnd : (unl n listed).Nodup := List.Nodup.sublist X32 List.nodup_range;have hnd2 : (i :: unl n (listed.setIfInBounds i true)).Nodup := by
  refine X1q.2 ⟨fun h => ?_, List.Nodup.sublist X32 List.nodup_range⟩;simp only [unl, X1r, X1v] at h;have : i < listed.size := by omega
  simp [this] at h
 refine (List.perm_ext_iff_of_nodup hnd hnd2).2 (fun k => ?_);simp [unl] at hi ⊢;by_cases hk : k = i
 ·grind
 ·grind
theorem Ybg (m : Region.Mode) (ops : Array Oper) (hback : ∀ (i : Nat) (o : Oper), ops[i]? = some o -> ∀ e ∈ o.after, Region.binds m e = true -> e.on < i) : ∀ (fuel t : Nat) (listed : Array Bool), listed.size = ops.size -> (unl ops.size listed).length <= fuel ->
  (Region.linearise.go m ops fuel t listed []).Perm (unl ops.size listed) /\ ∀ (A : List Nat) (i : Nat) (B : List Nat), Region.linearise.go m ops fuel t listed [] = A ++ i :: B -> ∀ (o : Oper), ops[i]? = some o -> ∀ e ∈ o.after, Region.binds m e = true -> listed.getD e.on false = true \/ e.on ∈ A
 | 0, t, listed, hs, hl => by
  have : unl ops.size listed = [] := Xn.1 (by omega);rw [this];exact ⟨by simp [Region.linearise.go], fun A i B h => by simp [Region.linearise.go] at h⟩
 | fuel + 1, t, listed, hs, hl => by
  rw [Region.linearise.go]
  let rs := (List.range ops.size).filter fun i => !listed.getD i true && ((ops[i]?).map (·.after.all fun e => !Region.binds m e || listed.getD e.on false)).getD false
  have hrs : ∀ i ∈ rs, i ∈ unl ops.size listed /\ ∀ (o : Oper), ops[i]? = some o -> ∀ e ∈ o.after, Region.binds m e = true -> listed.getD e.on false = true := by
   intro i hi;simp [rs] at hi;obtain ⟨h1, h2, h3⟩ := hi;refine ⟨by simp [unl]; exact ⟨h1, h2⟩, fun o ho e he hb => ?_⟩;rw [ho] at h3;simp only [X1w, X2x, Array.all_eq_true'] at h3;have := h3 e he;simpa [hb] using this
  cases hu : unl ops.size listed with
  | nil =>
   have hrs0 : rs = [] := by
    apply X2b.2;intro i hi;have := (hrs i hi).1;rw [hu] at this;simp at this
   have e0 : rs[t % rs.length]? = none := by rw [hrs0]; rfl
   refine ⟨by rw [e0]; exact List.Perm.refl _, fun A i B h => ?_⟩;change (match rs[t % rs.length]? with | some i => Region.linearise.go m ops fuel (t / rs.length) (listed.setIfInBounds i true) [i] | none => [].reverse) = _ at h;rw [e0] at h;simp at h
  | cons i0 us =>
   have hi0 : i0 ∈ rs := by
    have hm0 : i0 ∈ unl ops.size listed := by rw [hu]; simp
    simp only [unl, X1r, X1v] at hm0;simp only [rs, X1r, X1v, X9];refine ⟨hm0.1, hm0.2, ?_⟩;rw [Xt hm0.1];simp only [X1w, X2x, Array.all_eq_true'];intro e he;apply Xx;intro hcon;have hbe : Region.binds m e = true := by grind
    apply hcon;have hlt := hback i0 _ (Xt hm0.1) e he hbe;have : listed.getD e.on false = true := by
     apply Xx;intro hne;have hsz : e.on < listed.size := by omega
     have hmem : e.on ∈ unl ops.size listed := by
      simp only [unl, X1r, X1v];refine ⟨by omega, ?_⟩;simp only [Xy, Xt hsz, X2x] at hne ⊢;simpa using hne
     rw [hu] at hmem;have hsorted : (i0 :: us).Pairwise (· < ·) := by
      rw [<- hu];exact List.Pairwise.sublist X32 List.pairwise_lt_range
     rcases Xq.1 hmem with h | h
     ·omega
     ·have := (X1f.1 hsorted).1 _ h;omega
    rw [this];simp
   have hpos : 0 < rs.length := List.length_pos_of_mem hi0;have hlt : t % rs.length < rs.length := Nat.mod_lt _ hpos
   let i := rs[t % rs.length]
   have ei : rs[t % rs.length]? = some i := X1 hlt;have him : i ∈ rs := List.getElem_mem hlt;obtain ⟨k1, k2⟩ := hrs i him;have hperm := Yeu hs k1;have hlen : (unl ops.size (listed.setIfInBounds i true)).length <= fuel := by
    have := hperm.length_eq;simp at this;omega
   obtain ⟨g1, g2⟩ := Ybg m ops hback fuel (t / rs.length) (listed.setIfInBounds i true) (by simpa using hs) hlen;have eg : Region.linearise.go m ops fuel (t / rs.length) (listed.setIfInBounds i true) [i] = i :: Region.linearise.go m ops fuel (t / rs.length) (listed.setIfInBounds i true) [] := by
    rw [Y94]; rfl
   rw [<- hu];refine ⟨by rw [ei]; simp only; rw [eg]; exact (List.Perm.cons i g1).trans hperm.symm, fun A j B h o ho e he hb => ?_⟩;change (match rs[t % rs.length]? with | some i => Region.linearise.go m ops fuel (t / rs.length) (listed.setIfInBounds i true) [i] | none => [].reverse) = _ at h;rw [ei] at h;simp only at h;rw [eg] at h;cases A with
   | nil => grind
   | cons a A =>
    simp at h;obtain ⟨rfl, h⟩ := h;rcases g2 A j B h o ho e he hb with h1 | h1
    ·by_cases hea : e.on = i
     ·grind
     ·left;have hie : ¬ i = e.on := fun h => hea h.symm;simp only [Xy, X1z, X2 hie] at h1 ⊢;exact h1
    ·grind
section
variable {R : Type} {T : Tab} {sig : FuncId -> Option Sig} {caps : FuncId -> List Ty} {orc : Orc}
theorem Yc5 (op : BinOp) (k : IntKind) (a b : Int) (K : AV -> Option R) : intOp op k a b K = (intOp op k a b some).bind K := by
 unfold intOp
 repeat' split
 all_goals first | rfl | (cases h : decide (b = 0) <;> rfl) | (cases h : decide (b < 0) <;> rfl) | skip
theorem Yc6 (op : BinOp) (a b : ByteArray) (K : AV -> Option R) : strOp op a b K = (strOp op a b some).bind K := by
 unfold strOp
 repeat' split
 all_goals first | rfl | (cases h : decide (a.size + b.size <= 140737488355328) <;> rfl)
theorem Ya8 (op : BinOp) (k : IntKind) (a b : Int) (K : AV -> Option R) : shiftOp op k a b K = (shiftOp op k a b some).bind K := by
 unfold shiftOp;split
 ·grind
 ·cases h : decide (b < 0) <;> rfl
 ·rfl
theorem Yc7 (op : BinOp) (t : TypeId) (x y : AV) (K : AV -> Option R) : aggOp T op t x y K = (aggOp T op t x y some).bind K := rfl
theorem Y3d (op : BinOp) (t : TypeId) (x y : AV) (K : AV -> Option R) : binOp1 T op t x y K = (binOp1 T op t x y some).bind K := by
 unfold binOp1
 repeat' split
 all_goals first | rfl | exact Yc5 _ _ _ _ _ | exact Ya8 _ _ _ _ _ | exact Yc6 _ _ _ _ | exact Yc7 _ _ _ _ _
theorem Y3x (op : UnOp) (x : AV) (K : AV -> Option R) : unOp1 op x K = (unOp1 op x some).bind K := by
 unfold unOp1
 repeat' split
 all_goals first | rfl
theorem Y5c (te : TE) (lv : Lvl) (s x : List te.ty.D) (K : Leaf -> Option R) : appendTo te lv s x K = (appendTo te lv s x some).bind K := by
 unfold appendTo;cases h : decide ((s.length + x.length) * te.bytes <= 140737488355328) <;> rfl
theorem Yy {b : Bool} {α β : Type} {x : Option α} {k : α -> Option β} {y : Option β} (h : y = x.bind k) : (bif b then y else none) = (bif b then x else none).bind k := by grind
theorem Y6d {α β γ : Type} {z : Option γ} {f : γ -> Option α} {g : γ -> Option β} {k : α -> Option β} (h : ∀ c, g c = (f c).bind k) : z.bind g = (z.bind f).bind k := by
 cases z
 ·rfl
 ·exact h _
theorem Y5d (te : TE) (lv : Lvl) (s x : List te.ty.D) (G : Leaf -> Env) (K : Env -> Option R) : appendTo te lv s x (fun l => K (G l)) = (appendTo te lv s x (fun l => some (G l))).bind K := by
 rw [Y5c, Y5c te lv s x (fun l => some (G l))];exact Y6d (fun _ => rfl)
theorem Yb1 (op : BinOp) (t : TypeId) (x y : AV) (G : AV -> Env) (K : Env -> Option R) : binOp1 T op t x y (fun l => K (G l)) = (binOp1 T op t x y (fun l => some (G l))).bind K := by
 rw [Y3d, Y3d op t x y (fun l => some (G l))];exact Y6d (fun _ => rfl)
theorem Yc8 (op : UnOp) (x : AV) (G : AV -> Env) (K : Env -> Option R) : unOp1 op x (fun l => K (G l)) = (unOp1 op x (fun l => some (G l))).bind K := by
 rw [Y3x, Y3x op x (fun l => some (G l))];exact Y6d (fun _ => rfl)
theorem Ya9 (d : Option Nat) (te : TE) (s : Operand) (xs : List te.ty.D) (deep : Bool) (env : Env) (K : Env -> Option R) : appendS d te s xs deep env K = (appendS d te s xs deep env some).bind K := by
 unfold appendS
 repeat' split
 all_goals first | rfl | exact Y5d _ _ _ _ _ _
theorem Yaa (d : Option Nat) (t : TypeId) (s x : Operand) (env : Env) (K : Env -> Option R) : append1 T d t s x env K = (append1 T d t s x env some).bind K := by
 unfold append1
 repeat' split
 all_goals first | rfl | exact Ya9 _ _ _ _ _ _ _
theorem Yab (d : Nat) (te : TE) (r j : Nat) (i : Int) (o : Nat) (x : Operand) (env : Env) (K : Env -> Option R) : appendN d te r j i o x env K = (appendN d te r j i o x env some).bind K := by
 unfold appendN
 repeat' split
 all_goals first | rfl | skip
 all_goals (refine Yy ?_; repeat' split)
 all_goals first | rfl | exact Y5d _ _ _ _ _ _
theorem Y8a (r j : Nat) (i0 : Int) (o0 : Nat) (i1 : Int) (z : Nat) (i : Int) (o : Nat) (ls : List Leaf) (env : Env) (K : Env -> Option R) : storeNest r j i0 o0 i1 z i o ls env K = (storeNest r j i0 o0 i1 z i o ls env some).bind K := by
 unfold storeNest
 repeat' split
 all_goals rfl
theorem Y8b (s r j : Nat) (i : Int) (o : Nat) (l : Leaf) (a : Operand) (env : Env) (K : Env -> Option R) : storeGrow s r j i o l a env K = (storeGrow s r j i o l a env some).bind K := by
 unfold storeGrow
 repeat' split
 all_goals first | rfl | (exact Yy rfl) | (refine Yy ?_; split <;> rfl)
theorem Yc9 (d : Option Nat) (f : FuncId) (sg : Sig) (args : List Operand) (extra : List AV) (env : Env) (K : Env -> Option R) : callM caps orc d f sg args extra env K = (callM caps orc d f sg args extra env some).bind K := by
 unfold callM;split
 ·split
  ·simp only;split
   ·split
    ·split
     ·rfl
     ·split
      ·rfl
      ·refine Y6d (fun xs => ?_);split
       ·rfl
       ·grind
    ·rfl
   ·rfl
  ·rfl
 ·rfl
theorem Yca (d : Option Nat) (f : FuncId) (sg : Sig) (args : List Operand) (extra : List AV) (env : Env) (K : Env -> Option R) : callO caps orc d f sg args extra env K = (callO caps orc d f sg args extra env some).bind K := by
 unfold callO;split
 ·split
  ·split
   ·simp only;split
    ·split
     ·rfl
     ·grind
    ·rfl
   ·rfl
  ·rfl
 ·rfl
theorem Ycb (d : Option Nat) (f : FuncId) (sg : Sig) (args : List Operand) (extra : List AV) (env : Env) (K : Env -> Option R) : callS orc d f sg args extra env K = (callS orc d f sg args extra env some).bind K := rfl
theorem Ycc (d : Option Nat) (f : FuncId) (sg : Sig) (b : BoxSig) (args : List Operand) (extra : List AV) (env : Env) (K : Env -> Option R) : callB caps orc d f sg b args extra env K = (callB caps orc d f sg b args extra env some).bind K := by
 unfold callB;simp only;split
 ·split
  ·split
   ·split
    ·rfl
    ·split
     ·rfl
     ·grind
   ·rfl
  ·rfl
 ·rfl
theorem Ycd (d : Option Nat) (f : FuncId) (sg : Sig) (id : TypeId) (args : List Operand) (extra : List AV) (env : Env) (K : Env -> Option R) : callN caps orc d f sg id args extra env K = (callN caps orc d f sg id args extra env some).bind K := by
 unfold callN;simp only;split
 ·split
  ·rfl
  ·grind
 ·rfl
theorem Yce (k : Nat) (d : Option Nat) (f : FuncId) (sg : Sig) (args : List Operand) (extra : List AV) (env : Env) (K : Env -> Option R) : callG caps orc k d f sg args extra env K = (callG caps orc k d f sg args extra env some).bind K := by
 unfold callG;split
 ·split
  ·split
   ·simp only;split
    ·split
     ·rfl
     ·grind
    ·rfl
   ·rfl
  ·rfl
 ·rfl
theorem Yac (t : TypeId) (a v : Operand) (env : Env) (K : Env -> Option R) : storeFn t a v env K = (storeFn t a v env some).bind K := by
 unfold storeFn;split
 ·grind
 ·rfl
theorem Y3y (d : Option Nat) (f : FuncId) (args : List Operand) (extra : List AV) (env : Env) (K : Env -> Option R) : call1 sig caps orc d f args extra env K = (call1 sig caps orc d f args extra env some).bind K := by
 unfold call1;split
 ·rfl
 ·split
  ·exact Ycc _ _ _ _ _ _ _ _
  split
  ·exact Ycd _ _ _ _ _ _ _ _
  split
  ·split
   ·split
    ·exact Ycb _ _ _ _ _ _ _
    ·exact Yce _ _ _ _ _ _ _ _
   simp only;split
   ·split
    ·rfl
    ·grind
   ·rfl
  ·split
   ·exact Yca _ _ _ _ _ _ _
   ·exact Yc9 _ _ _ _ _ _ _
theorem Yb2 (t : TypeId) (a v : Operand) (env : Env) (K : Env -> Option R) : store1 T t a v env K = (store1 T t a v env some).bind K := by
 unfold store1;split
 ·exact Yac _ _ _ _ _
 split
 ·split
  ·exact Y8b _ _ _ _ _ _ _ _ _
  ·rfl
 unfold storePlain
 repeat' split
 all_goals first | rfl | exact Y8a _ _ _ _ _ _ _ _ _ _ _ | (refine Yy ?_; split <;> rfl) | (simp only; repeat' split) | skip
 all_goals first | rfl | exact Yy rfl
theorem Ycf (d : Nat) (o : Oper) (env : Env) (K : Env -> Option R) : evVal T sig caps orc d o env K = (evVal T sig caps orc d o env some).bind K := by
 cases hop : o.op with
 | binOp op t x y t' => simp [evVal, hop]; exact Yb1 _ _ _ _ _ _
 | unOp op t x => simp [evVal, hop]; exact Yc8 _ _ _ _
 | pick cc a b =>
  simp [evVal, hop];split
  ·grind
  ·rfl
 | index t x i =>
  simp [evVal, hop];split
  ·grind
  ·rfl
 | call cl =>
  simp [evVal, hop];split
  ·exact Y3y _ _ _ _ _ _
  ·split
   ·exact Y3y _ _ _ _ _ _
   ·exact Y3y _ _ _ _ _ _
   ·exact Y3y _ _ _ _ _ _
   ·rfl
  ·grind
  ·repeat' split
   all_goals first | rfl | exact Yaa _ _ _ _ _ _ | exact Yab _ _ _ _ _ _ _ _ _
  ·repeat' split
   all_goals rfl
  ·repeat' split
   all_goals rfl
  ·rfl
 | makeFunc fn first captured =>
  cases fn with
  | func f =>
   simp [evVal, hop];split
   ·grind
   ·rfl
  | _ => simp only [evVal, hop]; rfl
 | slice t x lo hi mx =>
  simp [evVal, hop]
  repeat' split
  all_goals first | rfl | exact Yy rfl
 | indexAddr t x i =>
  simp [evVal, hop]
  repeat' split
  all_goals first | rfl | exact Yy rfl
 | makeSlice t l c =>
  simp [evVal, hop]
  repeat' split
  all_goals first | rfl | exact Yy rfl
 | extract x i =>
  simp [evVal, hop]
  repeat' split
  all_goals rfl
 | load t x =>
  simp [evVal, hop]
  repeat' split
  all_goals rfl
 | fieldAddr t x f =>
  simp [evVal, hop]
  repeat' split
  all_goals rfl
 | field t x f =>
  simp [evVal, hop]
  repeat' split
  all_goals rfl
 | build t ps =>
  simp [evVal, hop]
  repeat' split
  all_goals rfl
 | buildSlice t n ps =>
  simp [evVal, hop]
  repeat' split
  all_goals rfl
 | convert t u x =>
  simp [evVal, hop]
  repeat' split
  all_goals rfl
 | nilCheck x =>
  simp [evVal, hop]
  repeat' split
  all_goals rfl
 | alloc e =>
  simp [evVal, hop]
  repeat' split
  all_goals rfl
 | box e x =>
  simp [evVal, hop]
  repeat' split
  all_goals rfl
 | assign x =>
  simp [evVal, hop]
  repeat' split
  all_goals rfl
 | move x => simp only [evVal, hop]; rfl
 | _ => simp only [evVal, hop]; rfl
theorem Y4g (o : Oper) (env : Env) (K : Env -> Option R) : evOp T sig caps orc o env K = (evOp T sig caps orc o env some).bind K := by
 unfold evOp
 repeat' split
 all_goals first | rfl | exact Ycf _ _ _ _ | exact Yb2 _ _ _ _ _
theorem Y3e (o : Oper) (env : Env) (K : Env -> Option R) : skipOp o env K = (skipOp o env some).bind K := by
 unfold skipOp
 repeat' split
 all_goals rfl
theorem Ycg (ops : Array Oper) (o : Oper) (rest : List Oper) (env : Env) (K : Env -> Option R) : evOps T sig caps orc ops (o :: rest) env K = (evOps T sig caps orc ops [o] env some).bind fun env' => evOps T sig caps orc ops rest env' K := by
 simp [evOps];split
 ·exact Y4g _ _ _
 ·split
  ·rfl
  ·split
   ·exact Y3e _ _ _
   ·rename_i b _;cases b
    ·simp [cond_false];split
     ·exact Y3e _ _ _
     ·exact Y4g _ _ _
    ·simp [X2h];split
     ·exact Y4g _ _ _
     ·exact Y3e _ _ _
   ·rfl
end
def rootsOf : AV -> List Nat
 | .path r _ => [r]
 | .clo _ caps => caps.map (·.1)
 | _ => []
def opReads (env : Env) : Operand -> List Nat
 | .tmp s => s :: rootsOf (get env s)
 | _ => []
def opSelf : Operand -> List Nat
 | .tmp s => [s]
 | _ => []
def Agree (S : List Nat) (e1 e2 : Env) : Prop := e2.length = e1.length /\ ∀ k ∈ S, get e2 k = get e1 k
theorem Agree.mono {S S' : List Nat} {e1 e2 : Env} (h : Agree S e1 e2) (hs : ∀ k ∈ S', k ∈ S) : Agree S' e1 e2 := ⟨h.1, fun k hk => h.2 k (hs k hk)⟩
theorem Agree.rd {env env2 : Env} (h : Agree (opReads env x) env env2) (ty : Option Ty) : rd ty env2 x = rd ty env x := by
 cases x with
 | tmp s =>
  have := h.2 s (by simp [opReads]);simp [FP.rd, this]
 | _ => rfl
theorem Agree.rdS {env env2 : Env} (h : Agree (opSelf x) env env2) (ty : Option Ty) : FP.rd ty env2 x = FP.rd ty env x := by
 cases x with
 | tmp s =>
  have := h.2 s (by simp [opSelf]);simp only [FP.rd, this]
 | _ => rfl
theorem Agree.reads {env env2 : Env} (h : Agree (opReads env x) env env2) : opReads env2 x = opReads env x := by
 cases x with
 | tmp s =>
  have := h.2 s (by simp [opReads]);simp [opReads, this]
 | _ => rfl
theorem Agree.root {env env2 : Env} {q off : Nat} (h : Agree (opReads env x) env env2) (ty : Option Ty) (hx : FP.rd ty env x = .path q off) : get env2 q = get env q \/ (∃ s, x = .tmp s /\ s = q) := by
 cases x with
 | tmp s =>
  simp [FP.rd] at hx;cases hg : get env s with
  | path r o =>
   rw [hg] at hx;simp at hx;exact .inl (h.2 q (by simp [opReads, hg, rootsOf, hx.1]))
  | con k ls => grind
  | _ => grind
 | const v =>
  exfalso;have typed : ∀ ty, constAV ty v ≠ .path q off := by
   intro ty h;unfold constAV at h;split at h
   ·simp at h
   ·split at h
    ·split at h
     ·simp [mkCon] at h
     ·simp at h
    ·simp at h
  simp [FP.rd] at hx;split at hx <;> first | (simp at hx; done) | exact typed _ hx
 | func f => simp [FP.rd] at hx
 | global g => simp [FP.rd] at hx
theorem Agree.rootB {env env2 : Env} {q off : Nat} (h : Agree (opReads env x) env env2) (ty : Option Ty) (hx : FP.rd ty env x = .path q off) : get env2 q = get env q := by
 rcases h.root ty hx with h1 | ⟨s, rfl, rfl⟩
 ·exact h1
 ·exact h.2 s (by simp [opReads])
def pureReads (env : Env) : Op -> Option (List Nat)
 | .move x => some (opSelf x)
 | .nilCheck x | .load _ x | .fieldAddr _ x _ | .field _ x _ | .unOp _ _ x | .convert _ _ x => some (opReads env x)
 | .pick c a b => some (opReads env c ++ (opReads env a ++ opReads env b))
 | .binOp _ _ x y _ | .indexAddr _ x y | .index _ x y | .makeSlice _ x y => some (opReads env x ++ opReads env y)
 | .alloc _ => some []
 | .makeFunc _ _ captured => some (captured.toList.flatMap (opReads env))
 | _ => none
section
variable {R : Type} {T : Tab} {sig : FuncId -> Option Sig} {caps : FuncId -> List Ty} {orc : Orc}
theorem Ych {op : BinOp} {t : TypeId} {x y : AV} {G : AV -> Env} {e : Env} (h : binOp1 T op t x y (fun v => some (G v)) = some e) : ∃ v, e = G v /\ ∀ {A : Type} (K : AV -> Option A), binOp1 T op t x y K = K v := by
 rw [Y3d] at h;obtain ⟨v, h1, h2⟩ := Xr.1 h;exact ⟨v, (Xs h2).symm, fun K => by rw [Y3d, h1]; rfl⟩
theorem Yd6 {op : UnOp} {x : AV} {G : AV -> Env} {e : Env} (h : unOp1 op x (fun v => some (G v)) = some e) : ∃ v, e = G v /\ ∀ {A : Type} (K : AV -> Option A), unOp1 op x K = K v := by
 rw [Y3x] at h;obtain ⟨v, h1, h2⟩ := Xr.1 h;exact ⟨v, (Xs h2).symm, fun K => by rw [Y3x, h1]; rfl⟩
theorem Y3 (h : (get env d).quiet = true) (v : AV) : setD (some d) env v = put env d v := by
 simp [setD, h]
theorem Yd7 {env e1 : Env} {Rd : List Nat} (hr : pureReads env o.op = some Rd) (hq : (get env d).quiet = true) (h : evVal T sig caps orc d o env some = some e1) :
  ∃ v, e1 = put env d v /\ ∀ env2, Agree Rd env env2 -> (get env2 d).quiet = true -> evVal T sig caps orc d o env2 some = some (put env2 d v) /\ pureReads env2 o.op = some Rd := by
 cases hop : o.op with
 | move x =>
  rw [hop] at hr;simp only [pureReads, X0] at hr;subst hr;simp only [evVal, hop, X0] at h;rw [Y3 hq] at h;exact ⟨_, h.symm, fun env2 ha hq2 => ⟨by simp only [evVal, hop]; rw [ha.rdS, Y3 hq2], by simp only [pureReads]⟩⟩
 | nilCheck x =>
  rw [hop] at hr;simp only [pureReads, X0] at hr;subst hr;simp only [evVal, hop] at h;split at h
  ·rename_i q off hx;simp only [X0] at h;rw [Y3 hq] at h;exact ⟨_, h.symm, fun env2 ha hq2 => ⟨by simp only [evVal, hop]; rw [ha.rd, hx]; simp only [Y3 hq2], by simp only [pureReads, ha.reads]⟩⟩
  ·rename_i f cs hx;simp only [X0] at h;rw [Y3 hq] at h;exact ⟨_, h.symm, fun env2 ha hq2 => ⟨by simp only [evVal, hop]; rw [ha.rd, hx]; simp only [Y3 hq2], by simp only [pureReads, ha.reads]⟩⟩
  ·rename_i f cs hx;simp only [X0] at h;rw [Y3 hq] at h;exact ⟨_, h.symm, fun env2 ha hq2 => ⟨by simp only [evVal, hop]; rw [ha.rd, hx]; simp only [Y3 hq2], by simp only [pureReads, ha.reads]⟩⟩
  ·rename_i f cs hx;simp only [X0] at h;rw [Y3 hq] at h;exact ⟨_, h.symm, fun env2 ha hq2 => ⟨by simp only [evVal, hop]; rw [ha.rd, hx]; simp only [Y3 hq2], by simp only [pureReads, ha.reads]⟩⟩
  ·rename_i f cs hx;simp only [X0] at h;rw [Y3 hq] at h;exact ⟨_, h.symm, fun env2 ha hq2 => ⟨by simp only [evVal, hop]; rw [ha.rd, hx]; simp only [Y3 hq2], by simp only [pureReads, ha.reads]⟩⟩
  ·simp at h
 | load t x =>
  rw [hop] at hr;simp only [pureReads, X0] at hr;subst hr;simp only [evVal, hop] at h;split at h
  ·rename_i τ ht;split at h
   ·rename_i q off hx;split at h
    ·rename_i e ls hb;split at h
     ·rename_i hty;simp only [X0] at h;rw [Y3 hq] at h;exact ⟨_, h.symm, fun env2 ha hq2 => ⟨by simp only [evVal, hop]; rw [ht]; simp only; rw [ha.rd, hx]; simp only; rw [ha.rootB none hx, hb]; simp only; rw [X4 hty, Y3 hq2], by simp only [pureReads, ha.reads]⟩⟩
     ·simp at h
    ·simp at h
   ·rename_i ls wr hx;split at h
    ·rename_i hty;simp only [X0] at h;rw [Y3 hq] at h;exact ⟨_, h.symm, fun env2 ha hq2 => ⟨by simp only [evVal, hop]; rw [ht]; simp only; rw [ha.rd, hx]; simp only; rw [X4 hty, Y3 hq2], by simp only [pureReads, ha.reads]⟩⟩
    ·simp at h
   ·simp at h
  ·rename_i ht;split at h
   ·rename_i hfn;split at h
    ·rename_i f cs hx;simp only [X0] at h;rw [Y3 hq] at h;exact ⟨_, h.symm, fun env2 ha hq2 => ⟨by simp only [evVal, hop]; rw [ht]; simp only; rw [X4 hfn, ha.rd, hx]; simp only [Y3 hq2], by simp only [pureReads, ha.reads]⟩⟩
    ·simp at h
   ·simp at h
 | fieldAddr s x f =>
  rw [hop] at hr;simp only [pureReads, X0] at hr;subst hr;simp only [evVal, hop] at h;split at h
  ·rename_i off τ hf;split at h
   ·rename_i q o' hx;simp only [X0] at h;rw [Y3 hq] at h;exact ⟨_, h.symm, fun env2 ha hq2 => ⟨by simp only [evVal, hop]; rw [hf]; simp only; rw [ha.rd, hx]; simp only [Y3 hq2], by simp only [pureReads, ha.reads]⟩⟩
   ·rename_i ls wr hx;simp only [X0] at h;rw [Y3 hq] at h;exact ⟨_, h.symm, fun env2 ha hq2 => ⟨by simp only [evVal, hop]; rw [hf]; simp only; rw [ha.rd, hx]; simp only [Y3 hq2], by simp only [pureReads, ha.reads]⟩⟩
   ·simp at h
  ·simp at h
 | field s x f =>
  rw [hop] at hr;simp only [pureReads, X0] at hr;subst hr;simp only [evVal, hop] at h;split at h
  ·rename_i off τ hf;split at h
   ·rename_i ls hx;split at h
    ·rename_i hty;simp only [X0] at h;rw [Y3 hq] at h;exact ⟨_, h.symm, fun env2 ha hq2 => ⟨by simp only [evVal, hop]; rw [hf]; simp only; rw [ha.rd, hx]; simp only; rw [X4 hty, Y3 hq2], by simp only [pureReads, ha.reads]⟩⟩
    ·simp at h
   ·simp at h
  ·simp at h
 | unOp op t x =>
  rw [hop] at hr;simp only [pureReads, X0] at hr;subst hr;simp only [evVal, hop] at h;obtain ⟨v, rfl, hK⟩ := Yd6 h;exact ⟨v, Y3 hq v, fun env2 ha hq2 => ⟨by simp only [evVal, hop]; rw [ha.rd, hK, Y3 hq2], by simp only [pureReads, ha.reads]⟩⟩
 | convert s dt x =>
  rw [hop] at hr;simp only [pureReads, X0] at hr;subst hr;simp only [evVal, hop] at h;split at h
  ·rename_i k k' k2 n hs ht hi;simp only [X0] at h;rw [Y3 hq] at h;exact ⟨_, h.symm, fun env2 ha hq2 => ⟨by simp only [evVal, hop]; rw [hs, ht, ha.rd, hi]; simp only [Y3 hq2], by simp only [pureReads, ha.reads]⟩⟩
  ·rename_i hne;split at h
   ·rename_i b hb;simp only [X0] at h;rw [Y3 hq] at h;refine ⟨_, h.symm, fun env2 ha hq2 => ⟨?_, by simp only [pureReads, ha.reads]⟩⟩;have e : (fun ty => rd ty env2 x) = (fun ty => rd ty env x) := funext fun ty => ha.rd ty;simp only [evVal, hop];rw [ha.rd none, e];split
    ·rename_i k k' k2 n hs ht hi;exact (hne _ _ _ _ hs ht hi).elim
    ·rw [hb]; simp only [Y3 hq2]
   ·simp at h
 | pick cc x y =>
  rw [hop] at hr;simp only [pureReads, X0] at hr;subst hr;simp only [evVal, hop] at h;split at h
  ·rename_i t hb;cases t with
   | true =>
    simp only [X2h, X0] at h;rw [Y3 hq] at h;refine ⟨_, h.symm, fun env2 ha hq2 => ?_⟩;have h1 := ha.mono (S' := opReads env cc) (fun k hk => Xc _ hk);have h2 := ha.mono (S' := opReads env x) (fun k hk => Xe _ (Xc _ hk));have h3 := ha.mono (S' := opReads env y) (fun k hk => Xe _ (Xe _ hk));exact ⟨by simp only [evVal, hop]; rw [h1.rd, hb]; simp only [X2h]; rw [h2.rd, Y3 hq2], by simp only [pureReads, h1.reads, h2.reads, h3.reads]⟩
   | false =>
    simp only [cond_false, X0] at h;rw [Y3 hq] at h;refine ⟨_, h.symm, fun env2 ha hq2 => ?_⟩;have h1 := ha.mono (S' := opReads env cc) (fun k hk => Xc _ hk);have h2 := ha.mono (S' := opReads env x) (fun k hk => Xe _ (Xc _ hk));have h3 := ha.mono (S' := opReads env y) (fun k hk => Xe _ (Xe _ hk));exact ⟨by simp only [evVal, hop]; rw [h1.rd, hb]; simp only [cond_false]; rw [h3.rd, Y3 hq2], by simp only [pureReads, h1.reads, h2.reads, h3.reads]⟩
  ·simp at h
 | binOp op t x y t' =>
  rw [hop] at hr;simp only [pureReads, X0] at hr;subst hr;simp only [evVal, hop] at h;obtain ⟨v, rfl, hK⟩ := Ych h;refine ⟨v, Y3 hq v, fun env2 ha hq2 => ?_⟩;have h1 := ha.mono (S' := opReads env x) (fun k hk => Xc _ hk);have h2 := ha.mono (S' := opReads env y) (fun k hk => Xe _ hk);exact ⟨by simp only [evVal, hop]; rw [h1.rd, h2.rd, hK, Y3 hq2], by simp only [pureReads, h1.reads, h2.reads]⟩
 | indexAddr t x y =>
  rw [hop] at hr;simp only [pureReads, X0] at hr;subst hr;simp only [evVal, hop] at h;split at h
  ·rename_i te he;split at h
   ·rename_i lx n hx hi;split at h
    ·rename_i xs hxs;split at h
     ·simp at h
     ·rename_i hl;obtain ⟨h0, h⟩ := Y1m h;simp only [X0] at h;rw [Y3 hq] at h;refine ⟨_, h.symm, fun env2 ha hq2 => ?_⟩;have h1 := ha.mono (S' := opReads env x) (fun k hk => Xc _ hk);have h2 := ha.mono (S' := opReads env y) (fun k hk => Xe _ hk);exact ⟨by simp only [evVal, hop]; rw [he]; simp only; rw [h1.rd, h2.rd, hx, hi]; simp only; rw [hxs]; simp only; rw [X2 hl, h0]; simp only [X2h, Y3 hq2], by simp only [pureReads, h1.reads, h2.reads]⟩
    ·simp at h
   ·simp at h
  ·simp at h
 | index t x y =>
  rw [hop] at hr;simp only [pureReads, X0] at hr;subst hr;simp only [evVal, hop] at h;split at h
  ·rename_i s k n ht hs hi;obtain ⟨b, hb, h⟩ := Xr.1 h;simp only [X0] at h;rw [Y3 hq] at h;refine ⟨_, h.symm, fun env2 ha hq2 => ?_⟩;have h1 := ha.mono (S' := opReads env x) (fun k hk => Xc _ hk);have h2 := ha.mono (S' := opReads env y) (fun k hk => Xe _ hk);exact ⟨by simp only [evVal, hop]; rw [h1.rd, h2.rd, ht, hs, hi]; simp only; rw [hb]; simp only [X37, Y3 hq2], by simp only [pureReads, h1.reads, h2.reads]⟩
  ·simp at h
 | makeSlice t x y =>
  rw [hop] at hr;simp only [pureReads, X0] at hr;subst hr;simp only [evVal, hop] at h;split at h
  ·rename_i te n m he hl hc;obtain ⟨h0, h⟩ := Y1m h;simp only [X0] at h;rw [Y3 hq] at h;refine ⟨_, h.symm, fun env2 ha hq2 => ?_⟩;have h1 := ha.mono (S' := opReads env x) (fun k hk => Xc _ hk);have h2 := ha.mono (S' := opReads env y) (fun k hk => Xe _ hk);exact ⟨by simp only [evVal, hop]; rw [h1.rd, h2.rd, he, hl, hc]; simp only; rw [h0]; simp only [X2h, Y3 hq2], by simp only [pureReads, h1.reads, h2.reads]⟩
  ·simp at h
 | alloc e =>
  rw [hop] at hr;simp only [pureReads, X0] at hr;subst hr;simp only [evVal, hop] at h;split at h
  ·rename_i τ he;simp only [X0] at h;rw [Y3 hq] at h;exact ⟨_, h.symm, fun env2 ha hq2 => ⟨by simp only [evVal, hop]; rw [he]; simp only [Y3 hq2], rfl⟩⟩
  ·rename_i he;split at h
   ·rename_i hfn;simp only [X0] at h;rw [Y3 hq] at h;exact ⟨_, h.symm, fun env2 ha hq2 => ⟨by simp only [evVal, hop]; rw [he]; simp only; rw [X4 hfn]; simp only [Y3 hq2], rfl⟩⟩
   ·simp at h
 | makeFunc fn first captured =>
  rw [hop] at hr;simp only [pureReads, X0] at hr;subst hr;cases fn with
  | func f =>
   simp only [evVal, hop] at h;split at h
   ·rename_i hf;split at h
    ·rename_i cs hc;simp only [X0] at h;rw [Y3 hq] at h;refine ⟨_, h.symm, fun env2 ha hq2 => ?_⟩;have hx : ∀ x ∈ captured.toList, Agree (opReads env x) env env2 := fun x hx => ha.mono (fun k hk => Xj.2 ⟨x, hx, hk⟩);have hm : ∀ l : List Operand, (∀ x ∈ l, Agree (opReads env x) env env2) -> l.mapM (fun x => match rd none env2 x with | .path r off => some (r, off) | _ => none) = l.mapM (fun x => match rd none env x with | .path r off => some (r, off) | _ => none) := by
      intro l hl
      induction l with
      | nil => rfl
      | cons x l ih =>
       rw [X2q, X2q, ih (fun y hy => hl y (X3 _ hy)), (hl x Xo).rd]
     have hf2 : ∀ l : List Operand, (∀ x ∈ l, Agree (opReads env x) env env2) -> l.flatMap (opReads env2) = l.flatMap (opReads env) := by
      intro l hl
      induction l with
      | nil => rfl
      | cons x l ih => rw [X1t, X1t, ih (fun y hy => hl y (X3 _ hy)), (hl x Xo).reads]
     refine ⟨?_, by simp only [pureReads, hf2 _ hx]⟩;simp only [evVal, hop];rw [X4 hf];erw [(hm _ hx).trans hc];simp only [Y3 hq2]
    ·simp at h
   ·simp at h
  | _ => simp [evVal, hop] at h
 | _ => rw [hop] at hr; simp [pureReads] at hr
end
end Go.FP
