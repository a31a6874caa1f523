/- How Go values lie in memory, and an evaluator of code with its soundness (part 3 of 7). Conditions: those that stand in each theorem; nothing is assumed of any program. -/
import Derived.Test.YtdnmcmhnikjphaaGreatFpB
import Derived.Maps.AppendAt
import Derived.Laws.CopyOwn

set_option linter.unusedVariables false
set_option linter.unusedSimpArgs false
set_option linter.unnecessarySimpa false

namespace Go.FP
open Go.RowKit
variable {P : Program} {T : Tab} {S : Nat -> Prop} {w : World} {env : Env} {tmps : Array Value} {vs : Nat -> Value} {ps : Nat -> AV} {cs : Nat -> List Value} {bs : Nat -> Nat -> List Nat} {c : Cx} {s : St} {ls : List Leaf} {x : Operand} {t : Ty} {v : Value} {f : FuncId} {e : TypeId} {lf : Leaf} {n : Nat} {u : Value} {k : Kind} {av : AV} {sg : Sig} {lv : Lvl} {τ : Ty} {w' : World} {us : List Value} {id : TypeId} {te : TE}
section
variable {P : Program} {o : Oper} {a : Act} {w : World} {R : Type} {K : Env -> Option R} {r : R} {next : Act -> World -> Prop} {Q : Exit -> Act -> World -> Prop} {c : Cx} {d : Nat} {T : Tab} {env : Env} {sig : FuncId -> Option Sig} {caps : FuncId -> List Ty} {orc : Orc}
theorem Ydy {cl : Call} {extra : List AV} {ex : List Value} (hop : o.op = .call cl) (hdst : o.dst = some d) (hr : RE c env a.tmps w) (hd : d < env.length)
  (hrun : Enterable P f -> (execOp a.eval o).run P w = .ok (.enter f (cl.args.map (evT a.tmps) ++ ex.toArray)) w) (hex : ∀ vs cs bs, Rel c (SS env noP a.tmps vs w cs bs) -> ValCs c (SS env noP a.tmps vs w cs bs) extra ex) (hexr : ∀ v ∈ extra, (∀ q ∈ v.refs, q.1 < env.length)) (hO : ∀ args q x, orc f args = some q -> q.run = some x -> Enterable P f /\ ∃ t y ys, q.pk x = ⟨t, y⟩ :: ys /\ FnSpecNew P f id sg.results t args y ys)
  (i : callN caps orc (some d) f sg id cl.args.toList extra env K = some r) (hn : Next c a K r env.length next) : o.wp P a w next Q := by
 unfold callN at i;simp only at i;split at i
 ·rename_i hc;obtain ⟨⟨hlen1, hlen2⟩, hcon⟩ := hc;split at i
  ·simp at i
  ·rename_i rvs hrv;split at i
   ·simp at i
   ·rename_i q I;obtain ⟨z0, hres, i⟩ := Xt.1 i;obtain ⟨hent, t, y, ys, e1, hspec⟩ := hO rvs q z0 I hres;rw [e1] at i;obtain ⟨sh, ls2, kk, E, hkk, i⟩ : ∃ sh ls2 kk, resLeaves sg.results ys = some (sh, ls2) /\ ((sg.results = [] /\ kk = .box ⟨id, false, []⟩) \/ (sg.results ≠ [] /\ kk = .tupB id t.sz sh)) /\ K (setD (some d) (freezeArgs [] (rdArgs env sg.params cl.args.toList ++ extra) env) (.con kk (leaves t y (fun _ => .at_ .ro) 0 ++ ls2))) = some r := by
     unfold newAV at i;simp only at i;cases E : resLeaves sg.results ys with
     | none => rw [E] at i; simp at i
     | some z =>
      obtain ⟨sh, ls2⟩ := z;rw [E] at i;cases hrs : sg.results with
      | nil =>
       rw [hrs] at i E;have : ls2 = [] := by
        cases ys with
        | nil => simp only [resLeaves, X0, Xw] at E; exact E.2.symm
        | cons _ _ => simp [resLeaves] at E
       subst this;exact ⟨sh, [], _, rfl, .inl ⟨rfl, rfl⟩, by rw [Xh]; exact i⟩
      | cons p ps =>
       rw [hrs] at i;exact ⟨sh, ls2, _, rfl, .inr ⟨sm, rfl⟩, i⟩
    obtain ⟨vs, Z, cs, bs, g, hno⟩ := hr;have hr : RE c env a.tmps w := ⟨vs, Z, cs, bs, g, hno⟩;generalize hvs : rdArgs env sg.params cl.args.toList ++ extra = avs at *;have hargl : cl.args.toList.length <= sg.params.length := by rw [<- hlen1, hlen2]; omega
    have hvals : ValCs c (SS env noP a.tmps vs w cs bs) avs (cl.args.toList.map (evT a.tmps) ++ ex) := by
     rw [<- hvs];exact (Y2q Z g hargl).1.append (hex vs cs bs g)
    have hptr : ∀ v ∈ avs, v.ptrs = [] := fun v D => by
     have : ∀ {l : List AV}, allCon l = true -> ∀ v ∈ l, v.ptrs = [] := by
      intro l
      induction l with
      | nil => intro _ v D; simp at D
      | cons x l ih =>
       intro h v D;cases x with
       | con k ls =>
        rcases Xr.1 D with rfl | D
        ·rfl
        ·exact ih h v D
       | _ => simp [allCon] at h
     exact this hcon v D
    have hrefs : ∀ v ∈ avs, ∀ q ∈ v.refs, q.1 < env.length := by
     intro v D;rw [<- hvs] at D;rcases X6.1 D with D | D
     ·exact (Y3b hr v D).1
     ·exact hexr v D
    let S : Nat -> Prop := fun b => RoS c (SS env noP a.tmps vs w cs bs) b \/ ∃ v ∈ avs, ∃ q ∈ v.refs, b ∈ bs q.1 (q.2 + 1)
    have hrvr : RVRels S w rvs (cl.args.toList.map (evT a.tmps) ++ ex) :=
     Y40 g (fun b C => .inl C) hvals hrv (fun v D q I b C => .inr ⟨v, D, q, I, C⟩) (fun v D q I l b C => by rw [hptr v D] at I; simp at I)
    unfold Oper.wp;rw [hrun hent];show Calls P f _ w _;have hargs : cl.args.map (evT a.tmps) ++ ex.toArray = (cl.args.toList.map (evT a.tmps) ++ ex).toArray := by
     rw [<- List.append_toArray, <- X2l, X1g]
    rw [hargs];refine X2m (hspec S w _ hrvr) ?_
    rintro e w' ⟨B, Y, j, bsx, rfl, C, hB, hBh, U, hrr, hnd, hfrs⟩
    show next (a.put o.dst (newRes B sg.results j)) w'
    rw [hdst];obtain ⟨m1, m2, m3, L, m4, m5, m6⟩ := Y3q hrr E;have hmode := Y2c E;subst m5;obtain ⟨hBn, hnd2⟩ := X1q.1 hnd;obtain ⟨n1, n2⟩ := Y17 hnd2;obtain ⟨V, hr1, k1, k2⟩ := g.freezeArgs_ [] avs hcon;have e := Y1u [] avs (ps := noP) hrefs (fun r => .inl rfl);have hl1 := Y1r [] avs env;have W : Rel c (SS (freezeArgs [] avs env) noP a.tmps vs w cs V) := Rel.congr hr1 e rfl;have h1 : RP c (freezeArgs [] avs env) a.tmps w noP vs := by
     refine ⟨hl1.trans Z, cs, V, W, fun r => ?_⟩;rw [hl1, <- e];have := Y1i [] avs (ovl env noP) r;exact ⟨fun q I => (hno r).1 q (this.1 q I), fun q I => (hno r).2 q (this.2 q I)⟩
    generalize henv1 : freezeArgs [] avs env = env1 at *;have O := h1;obtain ⟨N, _, _, _, O⟩ := h1;have hS : ∀ b, S b -> RoS c (SS env1 noP a.tmps vs w cs V) b := by
     intro b C;rcases C with C | ⟨v, D, q, I, C⟩
     ·exact ⟨fun r l G => C.1 r l (k1 r l b G), C.2⟩
     ·refine ⟨fun r l G => ?_, .inr (g.own _ _ _ C).1⟩;have hm' : b ∈ bs r l := k1 r l b G;obtain ⟨rfl, rfl⟩ := g.disj _ _ _ _ _ hm' C;have : b ∈ V q.1 (q.2 + 1) := G;rw [k2 v D q I] at this;simp at this
    have hBlt : B < w'.heap.size := (X10.1 hBh).1;obtain ⟨g1, g2⟩ := Y1x t (fun _ => .at_ .ro) 0 U;have hchl : Y.length = t.sz := U.len;generalize hls1 : leaves t y (fun _ => .at_ .ro) 0 = ls1 at *;have M : ∀ l ∈ ls1, l.m = .at_ .ro := fun l F => Y2f t y 0 l (hls1 ▸ F);have hset : ∀ l ∈ ls1 ++ ls2, l.m.settled = true := fun l F => (X6.1 F).elim (fun h => by rw [M l h]; rfl) (m3 l);have hnn : ∀ r, (∀ q ∈ (ovl env1 noP r).refs, q.1 ≠ env1.length /\ q.1 ≠ env1.length) /\ (∀ q ∈ (ovl env1 noP r).ptrs, q ≠ env1.length /\ q ≠ env1.length) := fun r =>
     ⟨fun q I => by have := (O r).1 q I; omega, fun q I => by have := (O r).2 q I; omega⟩
    have hbN := Y87 W (Xd _) rfl
    let X : Nat -> List Nat := fun l => if l = 0 then [B] else if l <= Y.length then [] else L.getD (l - 1 - Y.length) []
    have hbd : ∀ l b, b ∈ X l -> (l = 0 /\ b = B) \/ (Y.length < l /\ b ∈ L.getD (l - 1 - Y.length) []) := fun l b A => by
     simp only [X] at A;split at A
     ·rename_i h0; exact .inl ⟨h0, by simpa using A⟩
     ·split at A
      ·simp at A
      ·exact .inr ⟨om, A⟩
    have hltb : ∀ l b, b ∈ L.getD l [] -> b < w'.heap.size := by
     intro l b C;have hlt : l < L.length := by
      rw [Xk] at C;cases F : L[l]? with
      | none => rw [F] at C; simp at C
      | some x => exact (X5.1 F).1
     obtain ⟨m, _, U⟩ := m6 l _ _ (X1 om) (X1 om);exact Rep.lt U b C
    have hRo : ∀ k, ((S k \/ w.heap.size <= k) /\ k ∉ B :: L.flatten) -> RoS c ⟨upd (upd (ovl env1 noP) env1.length .undef) env1.length (.con kk (ls1 ++ ls2)), upd (ovlT a.tmps vs) env1.length (newRes B sg.results j), w', upd cs env1.length (Y ++ j.flatten), upd (upd V env1.length (fun _ => [])) env1.length X⟩ k := by
     intro k hk;refine ⟨fun r l G => ?_, ?_⟩
     ·have G : k ∈ (upd (upd V env1.length (fun _ => [])) env1.length X) r l := G;rw [Yh] at G;by_cases hrN : r = env1.length
      ·subst hrN;rw [Y0] at G;rcases hbd l k G with ⟨_, h⟩ | ⟨_, h⟩
       ·exact hk.2 (by rw [h]; simp)
       ·exact hk.2 (X3 _ (Yj h))
      ·rw [Y1 _ _ hrN] at G;rcases hk.1 with h | h
       ·exact (hS k h).1 r l G
       ·have := (W.own _ _ _ G).2;have this : k < w.heap.size := this;omega
     ·rcases hk.1 with h | h
      ·exact (hS k h).2
      ·exact .inr (W.mine_new h)
    have hre := W.reform (n := env1.length) (m := env1.length) hnn (w' := w') (C.mono W.base) (fun b A _ => C.block b A) (.con kk (ls1 ++ ls2)) (newRes B sg.results j) (Y ++ j.flatten) X (fun l b A => ?_) (fun l l' b hb1 hb2 => ?_) (fun l => ?_) (fun hkeep => ?_)
    ·have hp : RP c env1 a.tmps w' (upd noP env1.length (.con kk (ls1 ++ ls2))) (upd vs env1.length (newRes B sg.results j)) := by
      have e2 : upd (upd (ovl env1 noP) env1.length .undef) env1.length (.con kk (ls1 ++ ls2)) = ovl env1 (upd noP env1.length (.con kk (ls1 ++ ls2))) := by
       rw [Yh, Yb (Xd _)]
      refine ⟨N, _, _, Rel.congr hre e2 (Yv (N ▸ Xd _) _).symm, fun r => ?_⟩;rw [Yb (Xd _)];by_cases hrN : r = env1.length
      ·subst hrN;rw [Y0];have := Yd (k := kk) hset;rw [this.1, this.2];exact ⟨sm, sm⟩
      ·rw [Y1 _ _ hrN]; exact O r
     have := RE.commit hp (by rw [hl1]; exact hd);rw [Y0] at this;exact hn _ _ _ i this (by rw [Y19]; exact hl1) rfl
    ·rcases hbd l b A with ⟨_, rfl⟩ | ⟨_, h⟩
     ·exact ⟨hBlt, .inl hB⟩
     ·exact ⟨hltb _ _ h, .inl (hfrs b (Yj h))⟩
    ·rcases hbd l b hb1 with ⟨h1, e1⟩ | ⟨h1, e1⟩ <;> rcases hbd l' b hb2 with ⟨h2, e2⟩ | ⟨h2, e2⟩
     ·omega
     ·exact absurd (Yj e2) (e1 ▸ hBn)
     ·exact absurd (Yj e1) (e2 ▸ hBn)
     ·have := n2 _ _ b e1 e2;omega
    ·simp only [X];split
     ·simp
     ·split
      ·exact X13
      ·exact n1 _
    ·refine ⟨?_, by simp only [Y0]; rw [Xl, Xl, g1, m2], fun l F => ?_, fun l lf u F hu => ?_⟩
     ·simp only [Y0];rcases hkk with ⟨e0, rfl⟩ | ⟨e0, rfl⟩
      ·have e3 : j.flatten = [] /\ newRes B sg.results j = .pointer (some ⟨B, 0, none⟩) := by
        rw [e0] at hrr;refine ⟨by rw [hrr.2.1]; rfl, by rw [e0]; rfl⟩
       rw [e3.1, e3.2, Xh];exact ⟨B, rfl, hBh, rfl, by simp [nthB]⟩
      ·refine ⟨B, resVals sg.results j, Y, j.flatten, ?_, rfl, hchl, hBh, rfl, m1⟩;cases hrs : sg.results with
       | nil => exact absurd hrs e0
       | cons p ps => rfl
     ·simp only [Y0];rw [Xl] at F;show X (l + 1) = [];simp only [X];rw [X2 om, X2 om, Xk, X23 om];rfl
     ·simp only [Y0] at hu;rw [Y2] at F;by_cases hlt : l < Y.length
      ·rw [Xj om] at F;rw [Xj hlt] at hu;have G := M lf (X8 F);have hr3 := (g2 l lf u F hu).1;obtain ⟨t1, x1, m1⟩ := lf;simp only at G hr3;subst G;refine LeafRel.of_rep trivial ?_;have eb : X (l + 1) = [] := by simp only [X]; rw [X2 om, X4 om]
       simp only [Y0, eb];exact Rep.move (fun k hk hlt => ⟨hRo k hk, rfl⟩) (fun _ _ => rfl) hr3
      ·rw [Xc om] at F;rw [Xc om] at hu;obtain ⟨m, e1, hrep2⟩ := m6 (l - Y.length) lf u (by rw [<- g1]; exact F) hu;have hmo := hmode lf (X8 F);obtain ⟨t1, x1, m'⟩ := lf;simp only at e1;subst e1;refine LeafRel.of_rep (by cases m <;> first | trivial | exact absurd rfl (hmo _)) ?_;have eb : X (l + 1) = L.getD (l - Y.length) [] := by
        simp only [X]; rw [X2 om, X2 om]; congr 1
       simp only [Y0, eb];exact Rep.move (fun k hk hlt => ⟨hRo k hk, rfl⟩) (fun _ _ => rfl) hrep2
 ·simp at i
end
section
variable {P : Program} {o : Oper} {a : Act} {w : World} {R : Type} {K : Env -> Option R} {r : R} {next : Act -> World -> Prop} {Q : Exit -> Act -> World -> Prop} {c : Cx} {d : Nat} {T : Tab} {env : Env} {sig : FuncId -> Option Sig} {caps : FuncId -> List Ty} {orc : Orc}
theorem Ydz (z : OrcOk P sig orc) {b : Call} {extra : List AV} {ex : List Value} (p : o.op = .call b) (g : o.dst = some d) (D : RE c env a.tmps w) (A : d < env.length)
  (h : Enterable P f -> (execOp a.eval o).run P w = .ok (.enter f (b.args.map (evT a.tmps) ++ ex.toArray)) w) (l : ∀ vs cs bs, Rel c (SS env noP a.tmps vs w cs bs) -> ValCs c (SS env noP a.tmps vs w cs bs) extra ex) (y : sig f = some sg) (j : sg.box = none /\ sg.newb = none) (B : sg.muts = false) (q : sg.own = true) (m : sg.give = none) (i : callS orc (some d) f sg b.args.toList extra env K = some r) (C : Next c a K r env.length next) : o.wp P a w next Q := by simp [callS] at i
end
section
variable {P : Program} {o : Oper} {a : Act} {w : World} {R : Type} {K : Env -> Option R} {r : R} {next : Act -> World -> Prop} {Q : Exit -> Act -> World -> Prop} {c : Cx} {d : Nat} {T : Tab} {env : Env}
theorem RP.grab (h : RP c env tmps w ps vs) (L : ∀ r, Settled (ps r)) {s : Nat} (F : get env s = .con k ls) (g : ∀ l ∈ ls, l.m.settled = true) (m : env.length <= n) (G : ps n = .undef) :
  RP c (killRoot s env) tmps w (upd ps n (.con k ls)) (upd vs n (tmps.getD s undef)) := by
 have i : s < env.length := Yx F;have C : s ≠ n := X1c (X1e i m);obtain ⟨b, cs, bs, I, j⟩ := h;obtain ⟨z, A⟩ := I.killRoot_ s;have p : chgE (killG s) (ovl env ps) n = .undef := by simp [chgE]; rw [Yg m, G]; rfl
 have y : chgE (killG s) (ovl env ps) s = .con k ls := by simp [chgE]; rw [Y7 i, F]; simp only [AV.chg, Y4l _ g]
 have E := z.move C (by show (chgE (killG s) (ovl env ps) n).quiet = true; rw [p]; rfl) A;simp [y] at E;have D : upd (upd (chgE (killG s) (ovl env ps)) s .undef) n (.con k ls) = ovl (killRoot s env) (upd ps n (.con k ls)) := by
  rw [Yb (by rw [Ya]; exact m)];unfold killRoot;rw [Yt (by rw [Y8]; exact i), Y1s _ _ _ L]
 have e2 : upd (ovlT tmps vs) n (ovlT tmps vs s) = ovlT tmps (upd vs n (tmps.getD s undef)) := by
  rw [Yv (b ▸ m)];congr 1;exact X4 (b ▸ i)
 refine ⟨by rw [Ya]; exact b, _, _, Rel.congr E D e2, fun r => ?_⟩;rw [Ya, <- D];simp only [upd];split
 ·rw [(Yd g).1, (Yd g).2]; exact ⟨sm, sm⟩
 ·split
  ·exact ⟨by simp [AV.refs], by simp [AV.ptrs]⟩
  ·have := Yi (Y14 s) (ovl env ps r);exact ⟨fun q B => (j r).1 q (this.1 q B), fun q B => (j r).2 q (this.2 q B)⟩
theorem RP.grabPlace (h : RP c env tmps w ps vs) (hs : ∀ r, Settled (ps r)) {ts r j : Nat} {x : t.D} (hk : get env ts = .con .val [⟨t, x, .bor r j []⟩]) {lp : Leaf} (hl : (get env r).leaf? j = some lp) (hm : lp.m = .at_ lv) (hlv : lv ≠ .ro) (hn : env.length <= n) (hp : ps n = .undef) :
  let env2 := killPlace r j env
  RP c (put env2 r ((get env2 r).setLeaf j ⟨lp.t, lp.x, .dead⟩)) tmps w (upd ps n (.con .val [⟨t, x, .at_ lv⟩])) (upd vs n (tmps.getD ts undef)) := by
 intro env2;have htl : ts < env.length := Yx hk;have hrl : r < env.length := Y1g hl;have hrn : r ≠ n := X1c (X1e hrl hn);obtain ⟨Z, cs, bs, hr, hno⟩ := h
 replace hr : Rel c (SS env ps tmps vs w cs bs) := hr
 -- what is borrowed is the place itself
 have hav := hr.av ts;have e1 : (SS env ps tmps vs w cs bs).env ts = .con .val [⟨t, x, .bor r j []⟩] := by show ovl env ps ts = _; rw [Y7 htl]; exact hk
 have e2 : (SS env ps tmps vs w cs bs).tm ts = tmps.getD ts undef := X4 (Z ▸ htl);have hbor : (cs r)[j]? = some (tmps.getD ts undef) /\ lp = ⟨t, x, lp.m⟩ := by
  rw [e1, e2] at hav;obtain ⟨⟨g1, _⟩, g2, _, g4⟩ := hav;have := g4 0 _ (tmps.getD ts undef) rfl (by rw [g1]; rfl);obtain ⟨_, _, ⟨lf', u', ⟨g5, g6, g7⟩, g8⟩, _⟩ := this;have g5 : (ovl env ps r).leaf? j = some lf' := g5;rw [Y7 hrl, hl] at g5;simp at g5;obtain ⟨m, g9, rfl⟩ := g8 rfl;subst g5;exact ⟨g7, by rw [g9]⟩
 obtain ⟨hcj, hlp⟩ := hbor;obtain ⟨A, hk3⟩ := hr.killPlace_ r j;obtain ⟨k0, M, hv0⟩ : ∃ k ls, get env r = .con k ls := by
  cases hv : get env r with
  | con k ls => exact ⟨k, ls, rfl⟩
  | _ => rw [hv] at hl; simp [AV.leaf?] at hl
 have hl' : leafAt M j = some lp := by rw [hv0] at hl; exact hl
 let E := chgE (killPG r j) (ovl env ps)
 have G : E r = .con k0 (chgs (killPG r j) M) := by show (ovl env ps r).chg _ = _; rw [Y7 hrl, hv0]; rfl
 have hEn : E n = .undef := by show (ovl env ps n).chg _ = _; rw [Yg hn, hp]; rfl
 have hlj : leafAt (chgs (killPG r j) M) j = some lp := by
  rw [Yf, hl'];obtain ⟨t', x', m'⟩ := lp;simp only at hm;subst hm;rfl
 let dl : Leaf := ⟨lp.t, lp.x, .dead⟩
 let s' : St := ⟨upd (upd E r (.con k0 (setAt (chgs (killPG r j) M) j dl))) n (.con .val [⟨t, x, .at_ lv⟩]), upd (ovlT tmps vs) n (tmps.getD ts undef), w, upd cs n [tmps.getD ts undef], upd (updP bs r (j + 1) []) n (fun l => if l = 1 then bs r (j + 1) else [])⟩
 have hbn := Y87 hr hn hp;have L : ∀ r', ¬ (r' = r \/ r' = n) -> s'.env r' = (E r').chg noG /\ s'.tm r' = ovlT tmps vs r' /\ s'.cs r' = cs r' /\ s'.bs r' = bs r' := fun r' I => by
  simp at I;refine ⟨by rw [AV.chg_no]; show upd _ _ _ r' = _; rw [Y1 _ _ I.2, Y1 _ _ I.1], Y1 _ _ I.2, Y1 _ _ I.2, ?_⟩;show upd _ _ _ r' = _;rw [Y1 _ _ I.2, Y20 _ _ _ I.1]
 have Y : s'.env r = .con k0 (setAt (chgs (killPG r j) M) j dl) := by show upd _ _ _ r = _; rw [Y1 _ _ hrn, Y0]
 have C : s'.bs r = fun l => if l = j + 1 then [] else bs r l := by
  show upd _ _ _ r = _;rw [Y1 _ _ hrn];funext l;simp [updP]
 have hcr : s'.cs r = cs r := Y1 _ _ hrn;have B : s'.bs n = fun l => if l = 1 then bs r (j + 1) else [] := Y0 _ _ _
 have hown : ∀ r' W, ¬ (r' = r /\ W = j) -> r' ≠ n -> SamePl ⟨E, ovlT tmps vs, w, cs, bs⟩ s' r' W := by
  intro r' W U N;by_cases z : r' = r
  ·subst z;refine ⟨fun lf u ⟨g1, g2, g3⟩ => ⟨?_, g2, by rw [hcr]; exact g3⟩, by rw [C]; exact X2 (fun h => U ⟨rfl, om⟩), fun _ _ => rfl⟩;rw [Y];have g1 : (E r').leaf? W = some lf := g1;rw [G] at g1;simp only [AV.leaf?] at g1 ⊢;rw [Y2, Y9, Xy (fun h => U ⟨rfl, h.symm⟩), <- Y2];exact g1
  ·have V := L r' (by simp; exact ⟨z, N⟩);exact ⟨fun lf u ho => ho.chg V.1 V.2.2.1, by rw [V.2.2.2], fun _ _ => rfl⟩
 have hptr : ∀ r', r' ≠ n -> SamePtr ⟨E, ovlT tmps vs, w, cs, bs⟩ s' r' := by
  intro r' N;by_cases z : r' = r
  ·subst z;refine ⟨Y1 _ _ N, fun e ls he => ?_⟩;have he : E r' = _ := he;rw [G] at he;cases he;exact ⟨e, _, Y⟩
  ·have V := L r' (by simp; exact ⟨z, N⟩);exact SamePtr.chg V.1 V.2.1
 have hLr : ∀ r', (∀ q ∈ (E r').refs, ¬ (q.1 = r /\ q.2 = j) /\ q.1 ≠ n) /\ (∀ q ∈ (E r').ptrs, q ≠ n) := fun r' =>
  ⟨fun q X => ⟨fun hq2 => hk3 r' q X (Prod.ext hq2.1 hq2.2), by have h1 := (hno r').1 q ((Yi (Y1d r j) (ovl env ps r')).1 q X); omega⟩,
   fun q X => by have h1 := (hno r').2 q ((Yi (Y1d r j) (ovl env ps r')).2 q X); omega⟩
 obtain ⟨hrepj, hpinj⟩ : Rep (RoS c ⟨E, ovlT tmps vs, w, cs, bs⟩) w t lv [tmps.getD ts undef] x (bs r (j + 1)) /\ lv.pinOk c (tmps.getD ts undef) := by
  have D := A.av r;have : (E r) = _ := G;simp only [show chgE (killPG r j) (ovl env ps) r = _ from G] at D;have h6 := D.2.2.2 j lp _ hlj hcj;rw [hlp, hm] at h6;exact ⟨h6.rep, h6.pin⟩
 have hmain : Rel c s' := by
  refine Rel.step (s' := s') noG A (fun r' => r' = r \/ r' = n) (fun r' W => ¬ (r' = r /\ W = j) /\ r' ≠ n) (fun r' => r' ≠ n) L (X1f _ _) (fun b _ _ => rfl)
   (fun r' l b hD F => ?_) (fun r1 l1 r2 l2 b hD hD' i p => ?_) (fun r' l hD => ?_) (fun r' _ => hLr r') (fun O => ⟨Yl O (fun r' W hL => hown r' W hL.1 hL.2), Y13 O (fun r' W hL => hown r' W hL.1 hL.2), fun r' hL _ => hptr r' hL⟩) (fun O r' hD => ?_)
  ·by_cases z : r' = r
   ·subst z;rw [C] at F
    replace F : b ∈ (if l = j + 1 then [] else bs r' l) := F
    split at F
    ·simp at F
    ·exact ⟨(A.own _ _ _ F).2, .inr ⟨r', l, .inl rfl, F⟩⟩
   ·have e := hD.resolve_left z;subst e;rw [B] at F
    replace F : b ∈ (if l = 1 then bs r (j + 1) else []) := F
    split at F
    ·exact ⟨(A.own _ _ _ F).2, .inr ⟨r, j + 1, .inl rfl, F⟩⟩
    ·simp at F
  ·by_cases h1 : r1 = r <;> by_cases h2 : r2 = r
   ·subst h1; subst h2;rw [C] at i p
    replace i : b ∈ (if l1 = j + 1 then [] else bs _ l1) := i
    replace p : b ∈ (if l2 = j + 1 then [] else bs _ l2) := p
    split at i
    ·simp at i
    ·split at p
     ·simp at p
     ·exact A.disj _ _ _ _ _ i p
   ·subst h1;have e := hD'.resolve_left h2;subst e;exfalso;rw [C] at i;rw [B] at p
    replace i : b ∈ (if l1 = j + 1 then [] else bs r1 l1) := i
    replace p : b ∈ (if l2 = 1 then bs r1 (j + 1) else []) := p
    split at i
    ·simp at i
    ·rename_i U;split at p
     ·exact U (A.disj _ _ _ _ _ i p).2
     ·simp at p
   ·subst h2;have e := hD.resolve_left h1;subst e;exfalso;rw [C] at p;rw [B] at i
    replace p : b ∈ (if l2 = j + 1 then [] else bs r2 l2) := p
    replace i : b ∈ (if l1 = 1 then bs r2 (j + 1) else []) := i
    split at p
    ·simp at p
    ·rename_i U;split at i
     ·exact U (A.disj _ _ _ _ _ p i).2
     ·simp at i
   ·grind
  ·by_cases z : r' = r
   ·subst z;rw [C];show (if l = j + 1 then [] else bs r' l).Nodup;split
    ·grind
    ·exact A.nodup _ _
   ·have e := hD.resolve_left z;subst e;rw [B];show (if l = 1 then bs r (j + 1) else []).Nodup;split
    ·exact A.nodup _ _
    ·exact X13
  ·by_cases z : r' = r
   ·subst z;have D := A.av r';simp only [show chgE (killPG r' j) (ovl env ps) r' = _ from G] at D;obtain ⟨g1, g2, g3, g4⟩ := D;rw [Y];have ht' : s'.tm r' = ovlT tmps vs r' := Y1 _ _ hrn;rw [ht'];refine ⟨?_, by rw [Y9, Xz, hcr]; exact g2, fun l y => ?_, fun l lf u y hu => ?_⟩
    ·grind
    ·rw [Y9, Xz] at y;rw [C];show (if l + 1 = j + 1 then [] else bs r' (l + 1)) = [];split
     ·rfl
     ·exact g3 l y
    ·rw [hcr] at hu;rw [Y2, Y9] at y;by_cases hlj2 : l = j
     ·subst hlj2;rw [X1i gr] at y;simp at y;subst y;refine ⟨by rw [C]; simp, ?_⟩;have hu' : u = tmps.getD ts undef := by rw [hcj] at hu; exact (Xq hu).symm
      rw [hu'];exact Rep.one hrepj _ sm
     ·rw [Xy (fun h => hlj2 h.symm), <- Y2] at y;have h6 := g4 l lf u y hu;have := h6.chg (g := noG) (r' := r') O (Yl O (fun r' W (hL : ¬ (r' = _ /\ W = j) /\ r' ≠ n) => hown r' W hL.1 hL.2)) (fun q X => by
       have := (hLr r').1 q (by rw [show E r' = _ from G]; simp only [AV.refs, Xi]; exact ⟨lf, Yc y, X⟩);exact this) (by rw [C]; show (if l + 1 = j + 1 then [] else bs r' (l + 1)) = _; rw [X2 om]) (fun _ _ => rfl)
      have hno1 : lf.chg noG = lf := by obtain ⟨t, x, m⟩ := lf; cases m <;> rfl
      rw [hno1] at this;exact this
   ·have e := hD.resolve_left z;subst e;have e1 : s'.env r' = .con .val [⟨t, x, .at_ lv⟩] := Y0 _ _ _;have e2 : s'.tm r' = tmps.getD ts undef := Y0 _ _ _;have e3 : s'.cs r' = [tmps.getD ts undef] := Y0 _ _ _;rw [e1, e2];refine ⟨by rw [e3, B]; exact ⟨rfl, rfl⟩, by rw [e3]; rfl, fun l y => ?_, fun l lf u y hu => ?_⟩
    ·grind
    ·rw [e3] at hu;rw [Y2] at y;cases l with
     | succ l => simp at y
     | zero =>
      simp only [Xg, X0] at y hu;subst y; subst hu;refine LeafRel.of_rep hpinj ?_;rw [B];exact Rep.move (fun b F hl => O b F hl) (fun _ _ => rfl) hrepj
 have eE : upd (upd E r (.con k0 (setAt (chgs (killPG r j) M) j dl))) n (.con .val [⟨t, x, .at_ lv⟩]) = ovl (put env2 r ((get env2 r).setLeaf j dl)) (upd ps n (.con .val [⟨t, x, .at_ lv⟩])) := by
  rw [Yb (by rw [Y5]; show (chgEnv _ _).length <= n; rw [Y8]; exact hn), Yt (by show r < (chgEnv _ _).length; rw [Y8]; exact hrl)];congr 1;have : get env2 r = .con k0 (chgs (killPG r j) M) := by show get (chgEnv _ _) r = _; rw [Y12, hv0]; rfl
  rw [this];congr 1;exact Y1s _ _ _ hs
 refine ⟨by rw [Y5]; show (chgEnv _ _).length = _; rw [Y8]; exact Z, _, _, Rel.congr hmain eE (Yv (Z ▸ hn) _).symm, fun r' => ?_⟩;rw [Y5, show env2.length = env.length from Y8 _ _, <- eE];simp only [upd];split
 ·exact ⟨by simp [AV.refs, Leaf.refs], by simp [AV.ptrs]⟩
 ·split
  ·rename_i z;subst z;refine ⟨fun q X => ?_, by simp [AV.ptrs]⟩;have h1 := Y3t (l := dl) rfl q X;have h2 : q ∈ (E r').refs := by rw [show E r' = _ from G]; exact h1
   exact (hno r').1 q ((Yi (Y1d r' j) (ovl env ps r')).1 q h2)
  ·exact ⟨fun q X => (hno r').1 q ((Yi (Y1d r j) (ovl env ps r')).1 q X), fun q X => (hno r').2 q ((Yi (Y1d r j) (ovl env ps r')).2 q X)⟩
end
theorem Y2r (y : env.length = tmps.size) (h : Rel c (SS env ps tmps vs w cs bs)) (m : env.length <= n) {x : t.D} (p : ps n = .con .val [⟨t, x, .at_ lv⟩]) :
  Rep (RoS c (SS env ps tmps vs w cs bs)) w t lv [vs n] x (bs n 1) /\ bs n 0 = [] /\ cs n = [vs n] := by
 have b := h.av n;have i : (SS env ps tmps vs w cs bs).env n = .con .val [⟨t, x, .at_ lv⟩] := by show ovl env ps n = _; rw [Yg m, p]
 have e2 : (SS env ps tmps vs w cs bs).tm n = vs n := X2 gr;rw [i, e2] at b;obtain ⟨⟨g, j⟩, q, _, l⟩ := b;exact ⟨(l 0 _ (vs n) rfl (by rw [g]; rfl)).rep, j, g⟩
theorem RP.reformAt (p : env.length = tmps.size) (A : Rel c (SS env ps tmps vs w cs bs)) (j : ∀ r, (∀ q ∈ (ovl env ps r).refs, q.1 < env.length) /\ (∀ q ∈ (ovl env ps r).ptrs, q < env.length)) {n m : Nat} (y : env.length <= n) (E : env.length <= m) (F : av.refs = [] /\ av.ptrs = [])
  (C : Below c.base w w') (D : ∀ b, b < w.heap.size -> (∀ l, b ∉ bs n l) -> w'.heap[b]? = w.heap[b]?) (cd : List Value) (g : Nat -> List Nat)
  (G : ∀ l b, b ∈ g l -> b < w'.heap.size /\ (w.heap.size <= b \/ ∃ h, b ∈ bs n h \/ b ∈ bs m h)) (k2 : ∀ l h b, b ∈ g l -> b ∈ g h -> l = h) (I : ∀ l, (g l).Nodup)
  (L : let s' : St := ⟨upd (upd (ovl env ps) m .undef) n av, upd (ovlT tmps vs) n v, w', upd cs n cd, upd (upd bs m (fun _ => [])) n g⟩; Keeps c (SS env ps tmps vs w cs bs) s' -> AVRel c s' n av v) :
  RP c env tmps w' (upd (upd ps m .undef) n av) (upd vs n v) := by
 have i : ∀ r, (∀ q ∈ (ovl env ps r).refs, q.1 ≠ n /\ q.1 ≠ m) /\ (∀ q ∈ (ovl env ps r).ptrs, q ≠ n /\ q ≠ m) := fun r =>
  ⟨fun q z => by have := (j r).1 q z; omega, fun q z => gr⟩
 have B := A.reform i C D av v cd g G k2 I L;have e : upd (upd (ovl env ps) m .undef) n av = ovl env (upd (upd ps m .undef) n av) := by rw [Yb y, Yb E]
 refine ⟨p, _, _, Rel.congr B e (Yv (p ▸ y) v).symm, fun r => ?_⟩;rw [<- e];simp only [upd];split
 ·grind
 ·split
  ·exact ⟨by simp [AV.refs], by simp [AV.ptrs]⟩
  ·exact j r
section
variable {P : Program} {w : World} {c : Cx} {T : Tab} {env : Env}
theorem RP.appended (hT : TabOk P T) (h : RP c env tmps w ps vs) {t : TypeId} (ht : elemAt T t = some te) (ty : TypeId) {n m : Nat} (hn : env.length <= n) (hm : env.length <= m) {ss xs : List te.ty.D} {lv lx D : Lvl} {xv : Value}
  (hpn : ps n = .con .val [⟨.slice te.id te.ty, ss, .at_ lv⟩]) (hlv : lv ≠ .ro)
  (hx : (te.ty.flatB = true /\ m = n /\ ∃ S, Rep S w (.slice te.id te.ty) .ro [xv] xs []) \/ (m ≠ n /\ ps m = .con .val [⟨.slice te.id te.ty, xs, .at_ lx⟩] /\ vs m = xv))
  (hR0 : D = .sh \/ D = .dp) (hdp : D = .dp -> lv = .dp /\ (te.ty.flatB = true \/ lx = .dp)) (hbd : (ss.length + xs.length) * te.bytes <= 140737488355328) :
  ∃ M w', (Builtin.append_ #[t, t] ty #[vs n, xv]).run P w = .ok M w' /\ RP c env tmps w' (upd (upd ps m .undef) n (.con .val [⟨.slice te.id te.ty, ss ++ xs, .at_ D⟩])) (upd vs n M) := by
 have hR : D ≠ .ro :=gr;obtain ⟨hty, hund, _, hsz, hby, i0, hi0, hi1, hi2, hi3⟩ := TabOk.elem hT ht;obtain ⟨hlen, cs, bs, U, hno⟩ := h;have h : RP c env tmps w ps vs := ⟨hlen, cs, bs, U, hno⟩
 -- the row itself
 have hsn := Y2r hlen U hn hpn;obtain ⟨⟨v, cls, b0s, F, ev, ebs, hels, X⟩, hbn0, hcn⟩ := hsn;have ev : vs n = v := by simpa using ev
 have X : b0s = v.ownBlock.toList /\ w.ownsRow 0 te.id te.ty.sz v ss.length cls := by cases lv with | ro => exact absurd rfl hlv | sh => exact X | dp => exact X | pn _ => exact X
 obtain ⟨hb0s, hown⟩ := X
 -- what is appended
 have hxr : ∃ (S : Nat -> Prop) (bx : List Nat) (q : List Value) (p : List Nat) (A : Option Addr) (I : Nat), xv = .slice A xs.length I /\ (A = none -> I = 0) /\ xs.length <= I /\ (∀ (j : Nat) (u : Value), q[j]? = some u -> ∃ a, A = some a /\ w.cell? (a.add j) = some u) /\ q.length = xs.length * te.ty.sz /\ (∀ u ∈ q, u.oneCell' = true) /\
   ((te.ty.flatB = true /\ p = [] /\ El (Rep S w te.ty .ro) te.ty.sz q xs []) \/ (m ≠ n /\ (∀ b ∈ p, b ∈ bs m 1) /\ p.Nodup /\ El (Rep (RoS c (SS env ps tmps vs w cs bs)) w te.ty lx.sub) te.ty.sz q xs p)) := by
  rcases hx with ⟨hf, rfl, S, W⟩ | ⟨hmn, hpm, hvm⟩
  ·obtain ⟨u, q, b0, b1, e1, e2, i, hrw⟩ := W;have e1 : xv = u := by simpa using e1
   subst e1;obtain ⟨rfl, rfl⟩ := X21.1 e2.symm;obtain ⟨_, A, I, e3, Y, hz, hc⟩ := hrw;exact ⟨S, [], q, [], A, I, e3, hz, Y, fun j u hu => let ⟨a, h1, _, Z⟩ := hc j u hu; ⟨a, h1, Z⟩, i.len, i.all (fun c x b h => Rep.one h), .inl ⟨hf, rfl, i⟩⟩
  ·obtain ⟨W, _, _⟩ := Y2r hlen U hm hpm;rw [hvm] at W;have hro := Rep.ro W;obtain ⟨u, q, b0, b1, e1, e2, i, hrw⟩ := W;obtain ⟨u', clx', b0', b1', e1', e2', hel', hrw'⟩ := hro;have e1 : xv = u := by simpa using e1
   subst e1;have hnd := U.nodup m 1;have e2 : bs m 1 = b0 ++ b1 := e2;have hnd : (bs m 1).Nodup := hnd;rw [e2] at hnd;have hcells : ∃ A I, xv = .slice A xs.length I /\ (A = none -> I = 0) /\ xs.length <= I /\ ∀ (j : Nat) (u : Value), q[j]? = some u -> ∃ a, A = some a /\ w.cell? (a.add j) = some u := by
    cases lx with
    | ro => obtain ⟨_, A, I, e3, Y, hz, hc⟩ := hrw; exact ⟨A, I, e3, hz, Y, fun j u hu => let ⟨a, h1, _, Z⟩ := hc j u hu; ⟨a, h1, Z⟩⟩
    | sh => obtain ⟨A, I, e3, Y, hz, hc⟩ := Y2l hrw.2; exact ⟨A, I, e3, hz, Y, fun j u hu => let ⟨a, h1, _, Z⟩ := hc j u hu; ⟨a, h1, Z⟩⟩
    | dp => obtain ⟨A, I, e3, Y, hz, hc⟩ := Y2l hrw.2; exact ⟨A, I, e3, hz, Y, fun j u hu => let ⟨a, h1, _, Z⟩ := hc j u hu; ⟨a, h1, Z⟩⟩
    | pn _ => obtain ⟨A, I, e3, Y, hz, hc⟩ := Y2l hrw.2; exact ⟨A, I, e3, hz, Y, fun j u hu => let ⟨a, h1, _, Z⟩ := hc j u hu; ⟨a, h1, Z⟩⟩
   obtain ⟨A, I, e3, hz, Y, hc⟩ := hcells;exact ⟨fun _ => False, bs m 1, q, b1, A, I, e3, hz, Y, hc, i.len, i.all (fun c x b h => Rep.one h), .inr ⟨hmn, fun b g => by rw [e2]; exact Xf _ g, (X12.1 hnd).2.1, i⟩⟩
 obtain ⟨S, bx, q, p, A, I, ex, hz, hxl, hxc, hxlen, hxone, hxel⟩ := hxr
 -- the run
 have hrun : ∃ M w', (Builtin.append_ #[t, t] ty #[vs n, xv]).run P w = .ok M w' /\ w'.ownsRow 0 te.id te.ty.sz M (ss.length + xs.length) (cls ++ q) /\ w.grownBy w' v.ownBlock /\ (M.ownBlock = v.ownBlock \/ M.ownBlock = some w.heap.size) := by
  cases A with
  | some ad =>
   have hz' : (zeroVal te.ty).cells.size = te.ty.sz := by rw [<- X17, Y1l, Y1c]
   have h63 : ss.length + xs.length <= maxLen := by
    have : (ss.length + xs.length) * 1 <= (ss.length + xs.length) * te.bytes := X36 _ hby;simp [maxLen];omega
   obtain ⟨M, w', h1, Z, h3, _, h5⟩ := run_append_own_at (P := P) w 0 t ty te.id i0 (zeroVal te.ty) te.ty.sz te.bytes hund hi0 hi3 hi1 hi2 hz' hsz v ss.length cls hown ad xs.length I q hxlen
    (fun j u hu => gr) hxone h63 hbd (X2f _)
   exact ⟨M, w', gr⟩
  | none =>
   have hcp := hz rfl;subst hcp;have hx0 : xs.length = 0 :=om;have hcl : q = [] := Xo.1 gr;refine ⟨v, w, ?_, by rw [hx0, hcl, Xh]; exact hown, ⟨rfl, rfl, rfl, Xd _, fun _ _ _ => rfl⟩, .inl rfl⟩;rw [ev, ex, hx0];exact run_append_owned_none (P := P) (w := w) 0 t ty te.id i0 te.ty.sz hund hi0 v ss.length cls hown
 obtain ⟨M, w', hr1, O, y, hwhere⟩ := hrun;refine ⟨M, w', hr1, ?_⟩
 -- blocks
 have hndn : (b0s ++ F).Nodup := by rw [<- ebs]; exact U.nodup n 1
 obtain ⟨_, hnd1s, hnd01⟩ := X12.1 hndn;have E : ∀ b, b ∈ F -> b ∈ bs n 1 := fun b g => gr;have N : ∀ b, v.ownBlock = some b -> b ∈ bs n 1 := fun b g => gr;have hsize : w.heap.size <= w'.heap.size := y.size;have hvs : ∀ b, M.ownBlock = some b -> b ∉ F := by
  intro b g hm1;rcases hwhere with hw | hw
  ·grind
  ·rw [hw] at g;have : b = w.heap.size := by simp_all
   have Z : b < w.heap.size := (U.own _ _ _ (E b hm1)).2;omega
 let b1 : List Nat := if D = .dp then F ++ p else []
 have G : ∀ b ∈ p, m ≠ n /\ b ∈ bs m 1 :=gr;have hvx : ∀ b, M.ownBlock = some b -> b ∉ p := by
  intro b g hm1;obtain ⟨hmn, hbm⟩ := G b hm1;rcases hwhere with hw | hw
  ·rw [hw] at g;exact hmn (U.disj _ _ _ _ _ hbm (N b g)).1
  ·rw [hw] at g;have : b = w.heap.size :=gr;have Z : b < w.heap.size := (U.own _ _ _ hbm).2;omega
 have hkeepb : ∀ b, b < w.heap.size -> v.ownBlock ≠ some b -> w'.heap[b]? = w.heap[b]? := fun b g hne => y.block b g (fun e => hne e.symm);have hvb1s : ∀ b ∈ F, v.ownBlock ≠ some b := fun b g e => hnd01 b gr b g rfl;have hvb1x : ∀ b ∈ p, v.ownBlock ≠ some b := fun b g e => (G b g).1 (U.disj _ _ _ _ _ (G b g).2 (N b e)).1;have hfresh : ∀ b, w.heap.size <= b -> ∀ r l, b ∉ bs r l := fun b g r l hm' => by have : b < w.heap.size := (U.own _ _ _ hm').2; omega
 have z : ∀ b ∈ F, c.mine b /\ b < w.heap.size := fun b g => U.own _ _ _ (E b g);have C : ∀ b ∈ p, c.mine b /\ b < w.heap.size := fun b g => U.own _ _ _ (G b g).2;have hsx : ∀ b ∈ F, b ∉ p := fun b h1 Z => (G b Z).1 (U.disj _ _ _ _ _ (G b Z).2 (E b h1)).1;have hxnd : p.Nodup :=gr;have hmem1 : ∀ b ∈ b1, b ∈ F \/ b ∈ p := fun b g => gr;have hvmem : ∀ b, M.ownBlock = some b -> b < w'.heap.size := fun b g => (Y1m O b g).2;refine RP.reformAt hlen U hno hn hm ⟨by simp [AV.refs, Leaf.refs], by simp [AV.ptrs]⟩ ?_ ?_ [M] (fun l => if l = 1 then M.ownBlock.toList ++ b1 else []) ?_ ?_ ?_ ?_
 ·exact ⟨y.os, y.tape, y.output, y.size, fun k hk => y.block k (by have := U.base; show k < w.heap.size; exact X1e hk this) (fun e => by
   have := (U.own _ _ _ (N k e.symm)).1.1;omega)⟩
 ·grind
 ·grind
 ·grind
 ·grind
 ·intro s' hk;have ebs' : s'.bs n = fun l => if l = 1 then M.ownBlock.toList ++ b1 else [] := Y0 _ _ _
  have ebs1 : s'.bs n 1 = M.ownBlock.toList ++ b1 := by rw [ebs']; rfl
  have ecs : s'.cs n = [M] := Y0 _ _ _;have hother : ∀ r, r ≠ n -> ∀ l b, b ∈ s'.bs r l -> r ≠ m /\ b ∈ bs r l := by
   intro r hrn l b g;have e : s'.bs r = upd bs m (fun _ => []) r := Y1 _ _ hrn;rw [e] at g;by_cases hrm : r = m
   ·subst hrm; rw [Y0] at g; simp at g
   ·rw [Y1 _ _ hrm] at g; exact ⟨hrm, g⟩
  have hRoS : ∀ b, RoS c (SS env ps tmps vs w cs bs) b -> b < w.heap.size -> RoS c s' b /\ w'.heap[b]? = w.heap[b]? := hk
  -- when the elements are no longer owned, they may be read
  have hfree : D ≠ .dp -> ∀ b, b ∈ F \/ b ∈ p -> RoS c s' b := by
   intro hnd' b g;refine ⟨fun r l V => ?_, .inr (g.elim (fun h => (z b h).1) (fun h => (C b h).1))⟩;by_cases hrn : r = n
   ·subst hrn;rw [ebs'] at V;by_cases Y : l = 1
    ·grind
    ·grind
   ·obtain ⟨hrm, V⟩ := hother r hrn l b V;rcases g with g | g
    ·exact hrn (U.disj _ _ _ _ _ V (E b g)).1
    ·exact hrm (U.disj _ _ _ _ _ V (G b g).2).1
  refine ⟨⟨ecs, by rw [ebs']; rfl⟩, by rw [ecs]; rfl, fun l Y => ?_, ?_⟩
  ·rw [ebs'];simp at Y;exact X2 om
  ·intro l lf u Y hu;rw [ecs] at hu;have hl0 : l = 0 :=gr;subst hl0;obtain rfl : lf = ⟨.slice te.id te.ty, ss ++ xs, .at_ D⟩ := by simpa [leafAt] using Y.symm
   obtain rfl : u = M :=gr;have goal : Rep (RoS c s') w' (.slice te.id te.ty) D [u] (ss ++ xs) (s'.bs n 1) := by
    have hrow' : ∀ (L : Lvl), L ≠ .ro -> RowRep (RoS c s') w' te.id te.ty.sz L u (ss ++ xs).length (cls ++ q) u.ownBlock.toList := by
     intro L hL;rw [Xl];cases L with
     | ro => exact absurd rfl hL
     | sh => exact ⟨rfl, O⟩
     | dp => exact ⟨rfl, O⟩
     | pn _ => exact ⟨rfl, O⟩
    refine ⟨u, cls ++ q, u.ownBlock.toList, b1, rfl, ebs1, ?_, hrow' D hR⟩;by_cases hd : D = .dp
    ·have hb1 : b1 = F ++ p := X4 hd;obtain ⟨hlvd, hxd⟩ := hdp hd;rw [hb1, hd];refine El.append ?_ ?_
     ·rw [hlvd] at hels;exact El.imp (fun c' x' b' hb' h' => Rep.dpS (S := RoS c (SS env ps tmps vs w cs bs)) (Rep.move (fun _ _ _ => by contradiction) (fun b g => hkeepb b (z b (hb' b g)).2 (hvb1s b (hb' b g))) (Rep.dpS (S' := fun _ => False) h'))) hels
     ·rcases hxel with ⟨hf, hbx, i⟩ | ⟨hmn, hbx, _, i⟩
      ·rw [hbx];refine El.bare ?_ i; intro _ _ _ h'; exact (Rep.flat hf h').2
      ·rcases hxd with hf | hlx
       ·have : p = [] := El.noB (fun c' x' b' h' => (Rep.flat (S' := fun _ => False) (w' := w) (m' := .ro) hf h').1) i;rw [this];refine El.bare ?_ i; intro _ _ _ h'; exact (Rep.flat hf h').2
       ·rw [hlx] at i;exact El.imp (fun c' x' b' hb' h' => Rep.dpS (S := RoS c (SS env ps tmps vs w cs bs)) (Rep.move (fun _ _ _ => by contradiction) (fun b g => hkeepb b (C b (hb' b g)).2 (hvb1x b (hb' b g))) (Rep.dpS (S' := fun _ => False) h'))) i
    ·have hb1 : b1 = [] := X2 hd;have hsub : D.sub = .ro := by rcases hR0 with rfl | rfl; rfl; exact absurd rfl hd
     rw [hb1, hsub];have conv : ∀ {L : Lvl} {cl : List Value} {l : List te.ty.D} {B : List Nat}, (∀ b ∈ B, (b ∈ F \/ b ∈ p) /\ b < w.heap.size /\ v.ownBlock ≠ some b) -> El (Rep (RoS c (SS env ps tmps vs w cs bs)) w te.ty L) te.ty.sz cl l B -> El (Rep (RoS c s') w' te.ty .ro) te.ty.sz cl l [] := by
      intro L cl l B hB i;refine El.bareW (bs := B) (fun c' x' b' hb' h' => ?_) (fun k hk => hk) i;refine Rep.move (S := fun b => RoS c (SS env ps tmps vs w cs bs) b \/ b ∈ b') (fun b g hlt => ?_) sm h'.ro;rcases g with g | g
      ·grind
      ·grind
     refine El.append (bs := []) (bs' := []) (conv (fun b g => ⟨.inl g, (z b g).2, hvb1s b g⟩) hels) ?_;rcases hxel with ⟨hf, hbx, i⟩ | ⟨hmn, hbx, _, i⟩
     ·refine El.bare ?_ i; intro _ _ _ h'; exact (Rep.flat hf h').2
     ·exact conv (fun b g => ⟨.inr g, (C b g).2, hvb1x b g⟩) i
   rcases hR0 with rfl | rfl
   ·exact LeafRel.of_rep trivial goal
   ·exact LeafRel.of_rep trivial goal
end
section
variable {P : Program} {o : Oper} {a : Act} {w : World} {R : Type} {K : Env -> Option R} {r : R} {next : Act -> World -> Prop} {Q : Exit -> Act -> World -> Prop} {c : Cx} {d : Nat} {T : Tab} {env : Env}
theorem Settled.upd (b : ∀ r, Settled (ps r)) (n : Nat) (h : Settled av) : ∀ r, Settled (upd ps n av r) := by
 intro r;unfold FP.upd;split
 ·exact h
 ·exact b r
theorem Y4e (h : RP c env tmps w ps vs) (p : ∀ r, Settled (ps r)) {ty : Ty} {s : Operand} {env' : Env} (b : grabS ty env s = some (env', av)) (i : env.length <= n) (m : ps n = .undef) :
  env'.length = env.length /\ RP c env' tmps w (upd ps n av) (upd vs n (evT tmps s)) := by
 unfold grabS at b;split at b
 ·split at b
  ·rename_i ts x0 t x r j q;split at b
   ·rename_i lp g;split at b
    ·simp at b
    ·rename_i lv l y;simp at b;obtain ⟨rfl, rfl⟩ := b;refine ⟨by rw [Y5]; unfold killPlace; rw [Y8], ?_⟩;exact h.grabPlace p q g y (fun e => l (e ▸ rfl)) i m
    ·simp at b
   ·simp at b
  ·exact Y18 h p b i m
 ·exact Y18 h p b i m
theorem Y7f (hT : TabOk P T) {t : TypeId} {s x : Operand} {j : Call} {ss xs : List te.ty.D} {lv lx b : Lvl} {N m : Nat} (D : o.op = .call j) (U : j.callee = .builtin .append) (A : j.args.toList = [s, x]) (M : j.argTypes.toList = [t, t]) (q : o.dst = some d)
  (X : elemAt T t = some te) (h : RP c env a.tmps w ps vs) (z : env.length = N) (V : d < env.length) (E : ps N = .con .val [⟨.slice te.id te.ty, ss, .at_ lv⟩]) (G : vs N = evT a.tmps s) (C : lv ≠ .ro) (hm : N <= m)
  (F : ∀ r, r ≠ N -> r ≠ m -> ps r = .undef)
  (Y : (te.ty.flatB = true /\ m = N /\ ∃ S, Rep S w (.slice te.id te.ty) .ro [evT a.tmps x] xs []) \/ (m ≠ N /\ ps m = .con .val [⟨.slice te.id te.ty, xs, .at_ lx⟩] /\ vs m = evT a.tmps x))
  (O : b = .sh \/ b = .dp) (B : b = .dp -> lv = .dp /\ (te.ty.flatB = true \/ lx = .dp)) {K : Env -> Option R} (p : appendTo te b ss xs (fun l => K (setD (some d) env (.con .val [l]))) = some r) (W : Next c a K r N next) : o.wp P a w next Q := by
 unfold appendTo at p;have L : (ss.length + xs.length) * te.bytes <= 140737488355328 :=gr;rw [decide_eq_true L] at p
 replace p : K (setD (some d) env (.con .val [⟨.slice te.id te.ty, ss ++ xs, .at_ b⟩])) = some r := p
 have g : j.args = #[s, x] :=gr;have i : j.argTypes = #[t, t] :=gr;obtain ⟨Z, w', I, y⟩ := h.appended hT X o.type (n := N) (m := m) om om E C Y O B L;have e : upd (upd ps m .undef) N (.con .val [⟨.slice te.id te.ty, ss ++ xs, .at_ b⟩]) = upd noP N (.con .val [⟨.slice te.id te.ty, ss ++ xs, .at_ b⟩]) := by
  funext r;simp [upd];split
  ·rfl
  ·split
   ·rfl
   ·rw [F r (by assumption) (by assumption)]; rfl
 rw [e] at y;rw [<- z] at y;refine fin q (v := Z) (w' := w') ?_ V z y (by rw [z]; exact Y0 _ _ _) p W;rw [G] at I;simp [execOp, D, resolve, U, g, i, invoke, builtin, Y6, I]
theorem Y7g (hT : TabOk P T) {t : TypeId} {s x : Operand} {I : Call} {xs : List te.ty.D} {lx : Lvl} {N : Nat} {b : Bool} (G : o.op = .call I) (O : I.callee = .builtin .append) (g : I.args.toList = [s, x]) (y : I.argTypes.toList = [t, t]) (p : o.dst = some d)
  (W : elemAt T t = some te) (h : RP c env a.tmps w ps vs) (hN : env.length = N) (hd : d < env.length) 
  (X : (te.ty.flatB = true /\ (∀ r, ps r = .undef) /\ ∃ S, Rep S w (.slice te.id te.ty) .ro [evT a.tmps x] xs []) \/ ((∀ r, r ≠ N + 1 -> ps r = .undef) /\ ps (N + 1) = .con .val [⟨.slice te.id te.ty, xs, .at_ lx⟩] /\ vs (N + 1) = evT a.tmps x))
  (B : b = true -> te.ty.flatB = true \/ lx = .dp) {K : Env -> Option R} (j : appendS (some d) te s xs b env K = some r) (V : Next c a K r N next) : o.wp P a w next Q := by
 have hs : ∀ r, Settled (ps r) := by
  rcases X with ⟨_, z, _⟩ | ⟨z, D, _⟩
  ·exact fun r => .inl (z r)
  ·intro r;by_cases C : r = N + 1
   ·subst C; exact .inr ⟨_, _, D, by simp [Mode.settled]⟩
   ·exact .inl (z r C)
 have hp : ps N = .undef :=gr;unfold appendS at j;split at j
 ·rename_i env2 l hg;obtain ⟨hl, D⟩ := Y4e h hs hg om hp;split at j
  ·rename_i ss L;have E := Leaf.as_eq L;have Y : ∀ lv i : Lvl, l.m = .at_ lv -> lv ≠ .ro -> (i = .sh \/ i = .dp) -> (i = .dp -> lv = .dp /\ b = true) -> appendTo te i ss xs (fun l => K (setD (some d) env2 (.con .val [l]))) = some r -> o.wp P a w next Q := by
    intro lv i hm F q A j;rw [hm] at E;rw [E] at D;rcases X with ⟨U, z, S, hS⟩ | ⟨z, Z, h3⟩
    ·refine Y7f hT G O g y p W D om om (Y0 _ _ _) (by rw [Y0]) F (m := N) om (fun r C _ => by rw [Y1 _ _ C]; exact z r) (.inl ⟨U, rfl, S, hS⟩) (lx := lx) q (fun e => ⟨(A e).1, .inl U⟩) j V
    ·refine Y7f hT G O g y p W D om om (Y0 _ _ _) (by rw [Y0]) F (m := N + 1) om (fun r C M => by rw [Y1 _ _ C]; exact z r M) (.inr ⟨om, by rw [Y1 _ _ om]; exact Z, by rw [Y1 _ _ om]; exact h3⟩) q (fun e => ⟨(A e).1, B (A e).2⟩) j V
   split at j
   ·grind
   ·grind
   ·simp at j
  ·simp at j
 ·simp at j
theorem Yd4 (hT : TabOk P T) {t : TypeId} {s x : Operand} {z : Call} (q : o.op = .call z) (I : z.callee = .builtin .append) (i : z.args.toList = [s, x]) (l : z.argTypes.toList = [t, t]) (j : o.dst = some d)
  (E : RE c env a.tmps w) (U : d < env.length) {K : Env -> Option R} (b : append1 T (some d) t s x env K = some r) (M : Next c a K r env.length next) : o.wp P a w next Q := by
 unfold append1 at b;split at b
 ·simp at b
 ·rename_i te N;obtain ⟨vs, h⟩ := E;split at b
  ·rename_i L;split at b
   ·rename_i lx F;split at b
    ·rename_i xs m;split at b
     ·rename_i C;have B : ∃ S, Rep S w (.slice te.id te.ty) .ro [evT a.tmps x] xs [] := by
       obtain ⟨cs, bs, A, _⟩ := h.rel;obtain ⟨cells, O⟩ := Yo h.len A (some (.slice te.id te.ty)) x;rw [F] at O;obtain ⟨S, B⟩ := Y2z O C;rw [Leaf.as_eq m] at B;exact ⟨S, B⟩
      exact Y7g hT q I i l j N h rfl U (.inl ⟨L, fun _ => rfl, B⟩) (lx := .ro) (fun _ => .inl L) b M
     ·simp at b
    ·simp at b
   ·simp at b
  ·split at b
   ·rename_i G lx y;split at b
    ·rename_i xs m;obtain ⟨C, A⟩ := Y18 h (fun _ => .inl rfl) y (n := env.length + 1) om rfl;have g := Yy y lx sm;have p := Leaf.as_eq m;cases D : lx.m with
     | at_ lv =>
      rw [D] at p b;rw [p] at A;refine Y7g hT q I i l j N A C om (.inr ⟨fun r E => by rw [Y1 _ _ E]; rfl, Y0 _ _ _, by rw [Y0]⟩) (lx := lv) (fun h => .inr ?_) b M;simpa using h
     | bor _ _ _ => rw [D] at g; simp [Mode.settled] at g
     | dead => rw [D] at g; simp [Mode.settled] at g
    ·simp at b
   ·simp at b
end
theorem Y2m (D : env.length = tmps.size) (O : Rel c (SS env ps tmps vs w cs bs)) (M : env.length <= n) (N : ps n = .con k ls) (y : k.plain = true) (U : ∀ l ∈ ls, l.m.settled = true) :
  cs n = (vs n).cells.toList /\ bs n 0 = [] /\ ls.length = (cs n).length /\ (∀ l, ls.length <= l -> bs n (l + 1) = []) /\ (∀ l lf u, ls[l]? = some lf -> (cs n)[l]? = some u -> ∃ lv, (lf.m = .at_ lv /\ lv.pinOk c u) /\ Rep (RoS c (SS env ps tmps vs w cs bs)) w lf.t lv [u] lf.x (bs n (l + 1))) := by
 have j := O.av n;have E : (SS env ps tmps vs w cs bs).env n = .con k ls := by show ovl env ps n = _; rw [Yg M, N]
 have e2 : (SS env ps tmps vs w cs bs).tm n = vs n := X2 om;rw [E, e2] at j;obtain ⟨z, A, F, G⟩ := j;have B : ∀ l lf u, ls[l]? = some lf -> (cs n)[l]? = some u -> ∃ lv, (lf.m = .at_ lv /\ lv.pinOk c u) /\ Rep (RoS c (SS env ps tmps vs w cs bs)) w lf.t lv [u] lf.x (bs n (l + 1)) := by
  intro l lf u C V;have g := G l lf u (by rw [Y2]; exact C) V;have := U _ (X8 C);obtain ⟨t, x, m⟩ := lf;cases m with
  | at_ lv => exact ⟨lv, ⟨rfl, g.pin⟩, g.rep⟩
  | bor _ _ _ => simp [Mode.settled] at this
  | dead => simp [Mode.settled] at this
 have p : (cs n) = (vs n).cells.toList /\ bs n 0 = [] := by
  cases k with
  | val =>
   obtain ⟨q, g⟩ := z;refine ⟨?_, g⟩;have h : cs n = [vs n] := q;rw [h];have L : ls.length = 1 := by rw [A, q]; rfl
   obtain ⟨lv, _, I⟩ := B 0 _ (vs n) (X1 om) (by rw [h]; rfl);have b : (vs n).oneCell' = true := Rep.one I _ sm;cases W : vs n <;> first | rfl | (rw [W] at b; simp [Value.oneCell'] at b)
  | agg =>
   obtain ⟨q, g⟩ := z;refine ⟨?_, g⟩;rw [q];simp [Value.cells]
  | tup X => simp [Kind.plain] at y
  | box e => simp [Kind.plain] at y
  | tupB i n X => simp [Kind.plain] at y
 exact ⟨p.1, p.2, A, F, B⟩
theorem RP.pendLen (h : RP c env tmps w ps vs) (m : env.length <= n) (p : ps n = .con k ls) (j : k.plain = true) (y : ∀ l ∈ ls, l.m.settled = true) : (vs n).cells.toList.length = ls.length := by
 obtain ⟨b, cs, bs, q, _⟩ := h;obtain ⟨g, _, i, _⟩ := Y2m b q m p j y;rw [<- g, i]
theorem RP.merge (h : RP c env tmps w ps vs) {n m : Nat} (hn : env.length <= n) (hm : env.length <= m) (hnm : m ≠ n) {A O B N : List Leaf} {cA cO cB : List Value}
  (hpn : ps n = .con .agg (A ++ O ++ B)) (hpm : ps m = .con k N) (hk : k.plain = true) (hsn : ∀ l ∈ A ++ O ++ B, l.m.settled = true) (hsm : ∀ l ∈ N, l.m.settled = true)
  (hvn : vs n = .agg (cA ++ cO ++ cB).toArray) (hA : cA.length = A.length) (hO : cO.length = O.length) :
  RP c env tmps w (upd (upd ps m .undef) n (.con .agg (A ++ N ++ B))) (upd vs n (.agg (cA ++ (vs m).cells.toList ++ cB).toArray)) := by
 obtain ⟨p, cs, bs, q, Z⟩ := h;obtain ⟨M, n2, n3, n4, n5⟩ := Y2m p q hn hpn rfl hsn;obtain ⟨m1, m2, m3, m4, m5⟩ := Y2m p q hm hpm hk hsm;rw [hvn] at M;have M : cs n = cA ++ cO ++ cB := by rw [M]; simp [Value.cells]
 have hB : cB.length = B.length :=gr;have I : ∀ l ∈ A ++ N ++ B, l.m.settled = true :=gr;rw [<- m1]
 let y : Nat -> List Nat := fun l => if l <= A.length then bs n l else if l <= A.length + N.length then bs m (l - A.length) else bs n (l - N.length + O.length)
 have D : ∀ l b, b ∈ y l -> (b ∈ bs n l /\ l <= A.length) \/ (b ∈ bs m (l - A.length) /\ A.length < l /\ l <= A.length + N.length) \/ (b ∈ bs n (l - N.length + O.length) /\ A.length + N.length < l) :=gr;refine RP.reformAt p q Z hn hm (Yd I) (X1f _ _) (fun b _ _ => rfl) (cA ++ cs m ++ cB) y ?_ ?_ ?_ ?_
 ·intro l b W;rcases D l b W with ⟨i, _⟩ | ⟨i, _⟩ | ⟨i, _⟩
  ·exact ⟨(q.own _ _ _ i).2, .inr ⟨_, .inl i⟩⟩
  ·exact ⟨(q.own _ _ _ i).2, .inr ⟨_, .inr i⟩⟩
  ·exact ⟨(q.own _ _ _ i).2, .inr ⟨_, .inl i⟩⟩
 ·intro l l' b W X;rcases D l b W with ⟨i, g1⟩ | ⟨i, g1, g2⟩ | ⟨i, g1⟩ <;> rcases D l' b X with ⟨U, k1⟩ | ⟨U, k1, k2⟩ | ⟨U, k1⟩ <;> have := q.disj _ _ _ _ _ i U <;> omega
 ·intro l;simp [y];split
  ·exact q.nodup _ _
  ·split
   ·exact q.nodup _ _
   ·exact q.nodup _ _
 ·intro s' Y;have z : s'.bs n = y := Y0 _ _ _;have C : s'.cs n = cA ++ cs m ++ cB := Y0 _ _ _;have E : ∀ b, RoS c (SS env ps tmps vs w cs bs) b -> b < w.heap.size -> RoS c s' b /\ w.heap[b]? = w.heap[b]? := Y;refine ⟨⟨by rw [C], by rw [z]; show y 0 = []; simp [y]; exact n2⟩, by rw [C]; simp only [Xl]; omega, fun l F => ?_, fun l lf u F L => ?_⟩
  ·rw [z];simp at F;simp [y];rw [X2 om, X2 om];have := n4 (l + 1 - N.length + O.length - 1) (by simp; omega)
   rwa [show l + 1 - N.length + O.length - 1 + 1 = l + 1 - N.length + O.length by omega] at this
  ·rw [C] at L;rw [Y2] at F;have go : ∀ V lv, lf.m = .at_ lv /\ lv.pinOk c u -> Rep (RoS c (SS env ps tmps vs w cs bs)) w lf.t lv [u] lf.x V -> y (l + 1) = V -> LeafRel c s' n l u lf := by
    intro V lv ⟨j, G⟩ g he;obtain ⟨t, x, m⟩ := lf;simp only at j;subst j;refine LeafRel.of_rep G ?_;rw [z, he];exact Rep.move E (fun _ _ => rfl) g
   by_cases i : l < A.length
   ·rw [X7, Xj i] at F;rw [X7, Xj om] at L;obtain ⟨lv, j, g⟩ := n5 l lf u (by rw [X7, Xj i]; exact F) (by rw [M, X7, Xj om]; exact L);exact go _ lv j g (X4 om)
   ·by_cases U : l < A.length + N.length
    ·grind
    ·rw [X7, Xc om, Xc om] at F;rw [X7, Xc om, Xc om, hA] at L;obtain ⟨lv, j, g⟩ := n5 (l - N.length + O.length) lf u (by rw [X7, Xc om, Xc om, <- F]; congr 1; omega)
      (by rw [M, X7, Xc om, Xc om, <- L]; congr 1; omega)
     refine go _ lv j g ?_;simp [y];rw [X2 om, X2 om];congr 1;omega
theorem Y9p (off : Nat) : ∀ (v : List Value) (j : Nat) (cells : Array Value), off + j + v.length <= cells.size ->
  ((v.zipIdx j).foldl (fun (cs : Array Value) (p : Value × Nat) => cs.setIfInBounds (off + p.2) p.1) cells).toList = cells.toList.take (off + j) ++ v ++ cells.toList.drop (off + j + v.length)
 | [], j, cells, h => sm
 | x :: v, j, cells, h => by
  simp at h;rw [List.zipIdx_cons, List.foldl_cons, Y9p off v (j + 1) _ (by simp; omega)];rw [Array.toList_setIfInBounds];have g : off + j < cells.toList.length :=gr;have b : (cells.toList.set (off + j) x).take (off + (j + 1)) = cells.toList.take (off + j) ++ [x] := by
   rw [List.take_set, show off + (j + 1) = off + j + 1 by omega, X28 g, X22 _ _ (by simp; omega)];rw [Xn, X33 om, Nat.sub_self];rfl
  have e2 : (cells.toList.set (off + j) x).drop (off + (j + 1) + v.length) = cells.toList.drop (off + j + (x :: v).length) := by
   rw [List.drop_set, X4 om];congr 1;simp;omega
  rw [b, e2];simp
theorem Y8j {place : Nat -> Option (Nat × Nat)} {cells : Array Value} {i : Nat} {rest : List (Nat × Value)} {off sz : Nat} (b : place i = some (off, sz)) (g : v.cells.size = sz) (h : off + sz <= cells.size) :
  Instr.fill place cells ((i, v) :: rest) = Instr.fill place (cells.toList.take off ++ v.cells.toList ++ cells.toList.drop (off + sz)).toArray rest := by
 rw [Instr.fill, b];simp only;rw [X2 (by simp; omega)];congr 1;have := Y9p off v.cells.toList 0 cells gr;apply Array.toList_inj.1;rw [<- Array.foldl_toList, Array.toList_zipIdx, this];simp [g]
theorem Y5l {α j : Type} (f : α -> Option j) : ∀ {l : List α} {r : List j}, l.mapM f = some r -> ∀ {i : Nat} {x : α}, l[i]? = some x -> ∃ y, f x = some y /\ r[i]? = some y
 | [], r, h, i, x, hx => by simp at hx
 | a :: l, r, h, i, x, hx => by
  simp at h;cases b : f a with
  | none => rw [b] at h; simp at h
  | some y =>
   cases g : l.mapM f with
   | none => grind
   | some r' =>
    rw [b, g] at h;simp at h;subst h;cases i with
    | zero => grind
    | succ i => simp only [X1l] at hx ⊢; exact Y5l f g hx
theorem TabOk.place (hT : TabOk P T) {t : TypeId} (D : T.ty t = some τ) (B : τ.isAgg = true) :
  ∃ (fs : Array Field) (pl : List (Nat × Nat)), P.underlying t = some (.struct fs) /\ fs.toList.mapM (fun f => (P.info? f.type).map fun i => (f.offset, i.size)) = some pl /\ ∀ f off b, fieldAt T t f = some (off, b) -> pl[f]? = some (off, b.sz) := by
 obtain ⟨e, z, rfl⟩ := Tab.ty_te D;obtain ⟨A, rfl, g⟩ := Tab.te_mem z;obtain ⟨fs, pl, l, m⟩ := (hT e A).places g B;refine ⟨fs, pl, l, m, fun f off b C => ?_⟩;obtain ⟨q, p, h, k2, E, F, _⟩ := TabOk.field hT C;rw [l] at h;simp [TypeDesc.struct.injEq] at h;subst h;obtain ⟨i, G, I, _⟩ := TabOk.info hT F;obtain ⟨y, j, L⟩ := Y5l _ m (i := f) (x := p) (by simpa using k2);rw [L];rw [G] at j;simp at j;rw [<- j, E, I]
section
variable {P : Program} {o : Oper} {a : Act} {w : World} {R : Type} {K : Env -> Option R} {r : R} {next : Act -> World -> Prop} {Q : Exit -> Act -> World -> Prop} {c : Cx} {d : Nat} {T : Tab}
theorem Y9q {α : Type} (l : List α) (off k : Nat) (h : off + k <= l.length) : l = l.take off ++ (l.drop off).take k ++ l.drop (off + k) := by
 conv => lhs; rw [<- X31 off l, <- X31 k (l.drop off), List.drop_drop]
 rw [X7]
theorem Y8k {t : TypeId} {tmps : Array Value} {place : Nat -> Option (Nat × Nat)} (I : ∀ f off i, fieldAt T t f = some (off, i) -> place f = some (off, i.sz)) {N : Nat} : ∀ (g : List (Nat × Operand)) {env env' : Env} {ls ls' : List Leaf} {ps : Nat -> AV} {vs : Nat -> Value} {cells : Array Value},
  buildParts T t env ls g = some (env', ls') -> RP c env tmps w ps vs -> env.length = N -> (∀ r, r ≠ N -> ps r = .undef) -> ps N = .con .agg ls -> (∀ l ∈ ls, l.m.settled = true) -> vs N = .agg cells ->
  ∃ (b : Array Value) (z : Nat -> Value), Instr.fill place cells (g.map fun p => (p.1, evT tmps p.2)) = some b /\ env'.length = N /\ RP c env' tmps w (upd noP N (.con .agg ls')) z /\ z N = .agg b
 | [], env, env', ls, ls', ps, vs, cells, hb, h, hN, hps, hpn, hs, hv => by
  simp [buildParts] at hb;obtain ⟨rfl, rfl⟩ := hb;refine ⟨cells, vs, rfl, hN, ?_, hv⟩;have e : ps = upd noP N (.con .agg ls) := by
   funext r;simp [upd];split
   ·grind
   ·rename_i C; rw [hps r C]; rfl
  rw [<- e];exact h
 | (f, x) :: g, env, env', ls, ls', ps, vs, cells, hb, h, hN, hps, hpn, hs, hv => by
  simp [buildParts] at hb;cases hf : fieldAt T t f with
  | none => grind
  | some q =>
   obtain ⟨off, i⟩ := q;rw [hf] at hb;simp only at hb;cases L : takeAs i env x with
   | none => grind
   | some q =>
    obtain ⟨X, l⟩ := q;rw [L] at hb;simp only at hb;split at hb
    ·rename_i F;obtain ⟨M, U⟩ := Y23 L;have G := Y1e U;have E : ∀ r, Settled (ps r) := fun r => by
      by_cases C : r = N
      ·subst C; exact .inr ⟨_, _, hpn, hs⟩
      ·exact .inl (hps r C)
     obtain ⟨hl1, Y⟩ := Y18 h E M (n := N + 1) om (hps _ om);have y := Yy M;have hcl : cells.toList.length = ls.length := by
      have := h.pendLen (n := N) om hpn rfl hs;rw [hv] at this;exact this
     have V : (evT tmps x).cells.toList.length = l.length := by
      have := Y.pendLen (n := N + 1) om (Y0 _ _ _) (Y1o i) y;rw [Y0] at this;exact this
     have W := Y9q ls off l.length F;have e2 := Y9q cells.toList off l.length om;have Z := Y.merge (n := N) (m := N + 1) om om om (A := ls.take off) (O := (ls.drop off).take l.length) (B := ls.drop (off + l.length)) (N := l) (cA := cells.toList.take off) (cO := (cells.toList.drop off).take l.length) (cB := cells.toList.drop (off + l.length))
      (by rw [Y1 _ _ om, <- W]; exact hpn) (Y0 _ _ _) (Y1o i) (by rw [<- W]; exact hs) y (by rw [Y1 _ _ om, <- e2, X1g]; exact hv)
      (by simp only [Xn]; omega) gr
     rw [Y0] at Z;rw [Y41 _ _ _ F] at hb;obtain ⟨b, z, k1, k2, k3, k4⟩ := Y8k I g hb Z om (fun r C => by
       rw [Y1 _ _ C];by_cases D : r = N + 1
       ·subst D; rw [Y0]
       ·rw [Y1 _ _ D, Y1 _ _ D]; exact hps r C) (Y0 _ _ _) (fun l' j => by
       simp only [X6] at j;rcases j with (j | j) | j
       ·grind
       ·grind
       ·grind) (Y0 _ _ _)
     refine ⟨b, z, ?_, k2, k3, k4⟩;rw [X1y, Y8j (I f off i hf) (by rw [<- X17, V, G]) gr, <- G];exact k1
    ·simp at hb
theorem Ye0 (hT : TabOk P T) {t : TypeId} {b : Array (Nat × Operand)} {env env' : Env} (B : o.op = .build t b) (y : o.dst = some d) (C : RE c env a.tmps w) (hd : d < env.length) (F : T.ty t = some τ) (A : τ.isAgg = true) (O : buildParts T t env (zeros τ) b.toList = some (env', ls))
  (M : K (setD (some d) env' (.con .agg ls)) = some r) (U : Next c a K r env.length next) : o.wp P a w next Q := by
 obtain ⟨vs, h⟩ := C;obtain ⟨fs, pl, Y, Z, p3⟩ := TabOk.place hT F A;obtain ⟨i, W, _, X⟩ := TabOk.info hT F;have L := h.addVal (n := env.length) (Xd _) rfl (av := .con .agg (zeros τ)) (v := zeroVal τ) (fun cs bs E => by
  obtain ⟨z1, z2, z3⟩ := Y3l (RoS c (SS env noP a.tmps vs w cs bs)) w τ;refine ⟨zeroCells τ, ⟨by simp [zeroVal, A], rfl⟩, z1, fun l lf u D V => ?_⟩;obtain ⟨m, z, k2⟩ := z3 l lf u (by rw [<- Y2]; exact D) V;obtain ⟨t', x', m'⟩ := lf;simp only at z;have q := Y21 (lv := .dp) τ τ.dflt 0 _ (Yc D);subst z;exact ⟨k2, Y9g rfl q trivial⟩) (by
   have := Yd (k := .agg) (Y3l (fun _ => True) w τ).2.1;rw [this.1, this.2];exact ⟨sm, sm⟩)
 obtain ⟨g, vs', z, k2, G, I⟩ := Y8k (c := c) (w := w) (T := T) (t := t) (tmps := a.tmps) (place := fun x => pl[x]?) p3 (N := env.length) b.toList O L rfl (fun r C => Y1 _ _ C) (Y0 _ _ _) (Y3l (fun _ => True) w τ).2.1 (cells := (zeroVal τ).cells) (by rw [Y0]; simp [zeroVal, A, Value.cells]);have j : P.built t (b.map fun p => (p.1, a.eval p.2)).toList = some g := by
  unfold Program.built;rw [W, Y];simp only [X, Z];rw [Array.toList_map, Y6];simpa using z
 rw [<- k2] at G I;refine fin y (v := .agg g) (w' := w) ?_ om k2 G I M U;simp [execOp, B];have := run_build (P := P) w t (b.map fun p => (p.1, a.eval p.2)) g j;simp [this]
end
theorem Y5m (F : Nat -> List Nat) (k a b : Nat) : (List.range' k (a + b)).flatMap F = (List.range' k a).flatMap F ++ (List.range' (k + a) b).flatMap F :=gr
theorem Y33 {S : Nat -> Prop} {w : World} {L : Lvl} {F : Nat -> List Nat} : ∀ (t : Ty) {ls : List Leaf} {x : t.D} {rest : List Leaf} {cells : List Value} {k : Nat}, asm t ls = some (x, rest) -> ls.length = cells.length ->
  (∀ (l : Nat) (lf : Leaf) (u : Value), ls[l]? = some lf -> cells[l]? = some u -> Rep S w lf.t L [u] lf.x (F (k + l))) ->
  ∃ z A, cells = z ++ A /\ z.length = t.sz /\ rest.length = A.length /\ Rep S w t L z x ((List.range' k t.sz).flatMap F) /\ (∀ (l : Nat) (lf : Leaf) (u : Value), rest[l]? = some lf -> A[l]? = some u -> Rep S w lf.t L [u] lf.x (F (k + t.sz + l)))
 | .unit, ls, x, rest, cells, k, h, hl, hr => by
  simp [asm] at h;obtain ⟨_, rfl⟩ := h;exact ⟨[], cells, rfl, rfl, hl, ⟨rfl, rfl⟩, hr⟩
 | .pair a b, ls, x, rest, cells, k, h, hl, hr => by
  simp [asm] at h;cases B : asm a ls with
  | none => rw [B] at h; simp at h
  | some q =>
   obtain ⟨X, O⟩ := q;rw [B] at h;simp only at h;cases C : asm b O with
   | none => rw [C] at h; simp at h
   | some q =>
    obtain ⟨Y, W⟩ := q;rw [C] at h;simp at h;obtain ⟨rfl, rfl⟩ := h;obtain ⟨z, A, rfl, U, I, G, M⟩ := Y33 a B hl hr;obtain ⟨D, E, rfl, V, l2, k2, N⟩ := Y33 b C I M;exact ⟨z ++ D, E, by rw [X7], by rw [Xl, U, V]; rfl, l2, ⟨z, D, _, _, rfl, Y5m F k a.sz b.sz, G, k2⟩, fun l lf u j m => by have := N l lf u j m; rwa [X2b k] at this⟩
 | .int kk, ls, x, rest, cells, k, h, hl, hr => by
  cases ls with
  | nil => simp [asm] at h
  | cons l ls =>
   simp [asm] at h;cases g : l.as (.int kk) with
   | none => rw [g] at h; simp at h
   | some y =>
    rw [g] at h;simp at h;obtain ⟨rfl, rfl⟩ := h;cases cells with
    | nil => simp at hl
    | cons u cells =>
     have := hr 0 l u rfl rfl;rw [Leaf.as_eq g] at this;exact ⟨[u], cells, rfl, rfl, by simpa using hl, by simpa [Ty.sz] using this, fun i lf p j m => by have := hr (i + 1) lf p j m; rwa [show k + (i + 1) = k + Ty.sz (.int kk) + i by simp [Ty.sz]; omega] at this⟩
 | .bool, ls, x, rest, cells, k, h, hl, hr => by
  cases ls with
  | nil => simp [asm] at h
  | cons l ls =>
   simp [asm] at h;cases g : l.as .bool with
   | none => rw [g] at h; simp at h
   | some y =>
    rw [g] at h;simp at h;obtain ⟨rfl, rfl⟩ := h;cases cells with
    | nil => simp at hl
    | cons u cells =>
     have := hr 0 l u rfl rfl;rw [Leaf.as_eq g] at this;exact ⟨[u], cells, rfl, rfl, by simpa using hl, by simpa [Ty.sz] using this, fun i lf p j m => by have := hr (i + 1) lf p j m; rwa [show k + (i + 1) = k + Ty.sz .bool + i by simp [Ty.sz]; omega] at this⟩
 | .str, ls, x, rest, cells, k, h, hl, hr => by
  cases ls with
  | nil => simp [asm] at h
  | cons l ls =>
   simp [asm] at h;cases g : l.as .str with
   | none => rw [g] at h; simp at h
   | some y =>
    rw [g] at h;simp at h;obtain ⟨rfl, rfl⟩ := h;cases cells with
    | nil => simp at hl
    | cons u cells =>
     have := hr 0 l u rfl rfl;rw [Leaf.as_eq g] at this;exact ⟨[u], cells, rfl, rfl, by simpa using hl, by simpa [Ty.sz] using this, fun i lf p j m => by have := hr (i + 1) lf p j m; rwa [show k + (i + 1) = k + Ty.sz .str + i by simp [Ty.sz]; omega] at this⟩
 | .slice e τ, ls, x, rest, cells, k, h, hl, hr => by
  cases ls with
  | nil => simp [asm] at h
  | cons l ls =>
   simp [asm] at h;cases g : l.as (.slice e τ) with
   | none => rw [g] at h; simp at h
   | some y =>
    rw [g] at h;simp at h;obtain ⟨rfl, rfl⟩ := h;cases cells with
    | nil => simp at hl
    | cons u cells =>
     have := hr 0 l u rfl rfl;rw [Leaf.as_eq g] at this;exact ⟨[u], cells, rfl, rfl, by simpa using hl, by simpa [Ty.sz] using this, fun i lf p j m => by have := hr (i + 1) lf p j m; rwa [show k + (i + 1) = k + Ty.sz (.slice e τ) + i by simp [Ty.sz]; omega] at this⟩
def Asms (t : Ty) : List t.D -> List Leaf -> Bool -> Prop
 | [], L, d => L = [] /\ d = true
 | x :: xs, L, d => ∃ l L' b, L = l ++ L' /\ asm t l = some (x, []) /\ d = (allDeep l && b) /\ Asms t xs L' b
theorem Asms.deep : ∀ {xs : List t.D} {L : List Leaf} {d : Bool}, Asms t xs L d -> d = true -> allDeep L = true
 | [], L, d, ⟨h, _⟩, _ => by rw [h]; rfl
 | x :: xs, L, d, ⟨l, L', d', h1, _, h3, h4⟩, hd => by
  rw [h3] at hd;simp at hd;rw [h1];simp only [allDeep, List.all_append, X9];exact ⟨hd.1, Asms.deep h4 hd.2⟩
theorem Asms.el {S : Nat -> Prop} {w : World} {Lv : Lvl} {F : Nat -> List Nat} {t : Ty} : ∀ {xs : List t.D} {L : List Leaf} {d : Bool} {cells : List Value} {k : Nat}, Asms t xs L d -> L.length = cells.length ->
  (∀ (l : Nat) (lf : Leaf) (u : Value), L[l]? = some lf -> cells[l]? = some u -> Rep S w lf.t Lv [u] lf.x (F (k + l))) -> El (Rep S w t Lv) t.sz cells xs ((List.range' k L.length).flatMap F)
 | [], L, d, cells, k, ⟨h, _⟩, hl, hr => by
  subst h;exact ⟨Xo.1 hl.symm, rfl⟩
 | x :: xs, L, d, cells, k, ⟨l, L', d', h1, h2, h3, h4⟩, hl, hr => by
  subst h1;rw [Xl] at hl;obtain ⟨q, y, m, e2, z, A, _⟩ := Y33 (S := S) (w := w) (L := Lv) (F := F) t (cells := cells.take l.length) (k := k) h2 (by rw [Xn]; omega) (fun j lf u p i => gr);have g : y = [] := Xo.1 z.symm;subst g;rw [Xh] at m;have b : l.length = t.sz :=gr;refine ⟨q, cells.drop l.length, _, _, by rw [<- m, X31], e2, by rw [Xl, b]; exact Y5m F k t.sz L'.length, A, ?_⟩;refine Asms.el h4 (by rw [X16]; omega) (fun j lf u p i => ?_);rw [X1n] at i;have := hr (l.length + j) lf u (by rw [Xc om]; rw [show l.length + j - l.length = j by omega]; exact p) i
  rwa [b, <- X2b] at this
theorem Y2d {F : Nat -> List Nat} (h : ∀ l, (F l).Nodup) (i : ∀ l p b, b ∈ F l -> b ∈ F p -> l = p) : ∀ m k : Nat, ((List.range' k m).flatMap F).Nodup
 | 0, _ => X13
 | m + 1, k => by
  rw [List.range'_succ, X1u];refine X12.2 ⟨h _, Y2d h i m (k + 1), fun a q b g e => ?_⟩;subst e;simp at g;obtain ⟨j, y, g⟩ := g;have := i _ _ _ q g;omega
section
variable {P : Program} {o : Oper} {a : Act} {w : World} {R : Type} {K : Env -> Option R} {r : R} {next : Act -> World -> Prop} {Q : Exit -> Act -> World -> Prop} {c : Cx} {d : Nat} {T : Tab}
theorem Y9r {t : Ty} {tmps : Array Value} {N : Nat} : ∀ (b : List (Nat × Operand)) {env env' : Env} {n0 : Nat} {xs : List t.D} {dp : Bool} {L : List Leaf} {D Z : List Value} {ps : Nat -> AV} {vs : Nat -> Value},
  elemParts t env n0 b = some (env', xs, dp) -> RP c env tmps w ps vs -> env.length = N -> (∀ r, r ≠ N -> ps r = .undef) -> ps N = .con .agg L -> (∀ l ∈ L, l.m.settled = true) -> vs N = .agg D.toArray -> D.length = n0 * t.sz -> Z.length = b.length * t.sz ->
  ∃ (L' : List Leaf) (W : List Value) (z : Nat -> Value), Instr.fill (fun i => some (i * t.sz, t.sz)) (D ++ Z).toArray (b.map fun p => (p.1, evT tmps p.2)) = some W.toArray /\ env'.length = N /\ RP c env' tmps w (upd noP N (.con .agg (L ++ L'))) z /\ z N = .agg W.toArray /\
   (∀ l ∈ L ++ L', l.m.settled = true) /\ Asms t xs L' dp /\ xs.length = b.length
 | [], env, env', n0, xs, dp, L, D, Z, ps, vs, hb, h, hN, hps, hpn, hs, hv, hD, hZ => by
  simp [elemParts] at hb;obtain ⟨rfl, rfl, rfl⟩ := hb;have hz : Z = [] := Xo.1 (by simpa using hZ);subst hz;refine ⟨[], D, vs, by simp [Instr.fill], hN, ?_, hv, by simpa using hs, ⟨rfl, rfl⟩, rfl⟩;have e : ps = upd noP N (.con .agg (L ++ [])) := by
   funext r;simp [upd];split
   ·grind
   ·rename_i C; rw [hps r C]; rfl
  rw [<- e];exact h
 | (i, x) :: b, env, env', n0, xs, dp, L, D, Z, ps, vs, hb, h, hN, hps, hpn, hs, hv, hD, hZ => by
  simp only [elemParts] at hb;split at hb
  ·rename_i hi;subst hi;cases M : takeAs t env x with
   | none => grind
   | some q =>
    obtain ⟨env1, l⟩ := q;rw [M] at hb;simp only at hb;split at hb
    ·rename_i y X;split at hb
     ·rename_i env2 ys dd I;simp at hb;obtain ⟨rfl, rfl, rfl⟩ := hb;obtain ⟨U, hty⟩ := Y23 M;have G := Y1e hty;have F : ∀ r, Settled (ps r) := fun r => by
       by_cases C : r = N
       ·subst C; exact .inr ⟨_, _, hpn, hs⟩
       ·exact .inl (hps r C)
      obtain ⟨hl1, h1⟩ := Y18 h F U (n := N + 1) om (hps _ om);have j := Yy U;have Y : D.length = L.length := by
       have := h.pendLen (n := N) om hpn rfl hs;rw [hv] at this;simpa [Value.cells] using this
      have V : (evT tmps x).cells.toList.length = l.length := by
       have := h1.pendLen (n := N + 1) om (Y0 _ _ _) (Y1o t) j;rw [Y0] at this;exact this
      have h2 := h1.merge (n := N) (m := N + 1) om om om (A := L) (O := []) (B := []) (N := l) (cA := D) (cO := []) (cB := [])
       (by rw [Y1 _ _ om]; simpa using hpn) (Y0 _ _ _) (Y1o t) (by simpa using hs) j (by rw [Y1 _ _ om]; simpa using hv) Y rfl
      rw [Y0, Xh, Xh] at h2;simp only [X1t, X2d, Nat.one_mul] at hZ;obtain ⟨L', W, z, k1, k2, k3, k4, k5, k6, k7⟩ := Y9r b (Z := Z.drop t.sz) I h2 om (fun r C => by
        rw [Y1 _ _ C];by_cases E : r = N + 1
        ·subst E; rw [Y0]
        ·rw [Y1 _ _ E, Y1 _ _ E]; exact hps r C) (Y0 _ _ _) (fun l' g => by
        simp only [X6] at g;rcases g with g | g
        ·exact hs _ g
        ·grind) (Y0 _ _ _) (by rw [Xl, hD, V, G, X2d, Nat.one_mul]) (by rw [X16]; omega)
      refine ⟨l ++ L', W, z, ?_, k2, by rw [<- X7]; exact k3, k4, by rw [<- X7]; exact k5, ⟨l, L', dd, rfl, X, rfl, k6⟩, gr⟩;rw [X1y, Y8j (off := i * t.sz) (sz := t.sz) rfl (by rw [<- X17, V, G]) gr];have e1 : (D ++ Z).toArray.toList.take (i * t.sz) = D :=gr;have e2 : (D ++ Z).toArray.toList.drop (i * t.sz + t.sz) = Z.drop t.sz := by
       rw [<- hD, <- List.drop_drop, List.drop_left'];rfl
      rw [e1, e2];exact k1
     ·simp at hb
    ·simp at hb
  ·simp at hb
end
theorem Y3m : ∀ (t : Ty) {ls : List Leaf} {x : t.D} {rest : List Leaf}, asm t ls = some (x, rest) -> ∃ us, ls = us ++ rest /\ ∀ z ∈ us, z.t.isAgg = false
 | .unit, ls, x, rest, h => by
  simp [asm] at h;obtain ⟨_, rfl⟩ := h;exact ⟨[], rfl, sm⟩
 | .pair a b, ls, x, rest, h => by
  simp [asm] at h;cases j : asm a ls with
  | none => rw [j] at h; simp at h
  | some q =>
   obtain ⟨G, p⟩ := q;rw [j] at h;simp only at h;cases m : asm b p with
   | none => rw [m] at h; simp at h
   | some q =>
    obtain ⟨I, F⟩ := q;rw [m] at h;simp at h;obtain ⟨rfl, rfl⟩ := h;obtain ⟨A, C, D⟩ := Y3m a j;obtain ⟨B, e2, E⟩ := Y3m b m;exact ⟨A ++ B, gr⟩
 | .int k, ls, x, rest, h => by
  cases ls with
  | nil => simp [asm] at h
  | cons l ls =>
   simp [asm] at h;split at h
   ·rename_i y g;simp at h;exact ⟨[l], by rw [h.2]; rfl, fun z i => by rw [Xb.1 i, Leaf.as_eq g]; rfl⟩
   ·simp at h
 | .bool, ls, x, rest, h => by
  cases ls with
  | nil => simp [asm] at h
  | cons l ls =>
   simp [asm] at h;split at h
   ·rename_i y g;simp at h;exact ⟨[l], by rw [h.2]; rfl, fun z i => by rw [Xb.1 i, Leaf.as_eq g]; rfl⟩
   ·simp at h
 | .str, ls, x, rest, h => by
  cases ls with
  | nil => simp [asm] at h
  | cons l ls =>
   simp [asm] at h;split at h
   ·rename_i y g;simp at h;exact ⟨[l], by rw [h.2]; rfl, fun z i => by rw [Xb.1 i, Leaf.as_eq g]; rfl⟩
   ·simp at h
 | .slice e τ, ls, x, rest, h => by
  cases ls with
  | nil => simp [asm] at h
  | cons l ls =>
   simp [asm] at h;split at h
   ·rename_i y g;simp at h;exact ⟨[l], by rw [h.2]; rfl, fun z i => by rw [Xb.1 i, Leaf.as_eq g]; rfl⟩
   ·simp at h
theorem Y7h : ∀ {i : List t.D} {M : List Leaf} {dd : Bool}, Asms t i M dd -> ∀ z ∈ M, z.t.isAgg = false
 | [], M, dd, ⟨h, _⟩, z, b => by simp_all
 | y :: i, M, dd, ⟨l, L', d', h1, h2, _, h4⟩, z, b => by
  rw [h1] at b;rcases X6.1 b with b | b
  ·obtain ⟨us, e, g⟩ := Y3m t h2;rw [Xh] at e;exact g z (e ▸ b)
  ·exact Y7h h4 z b
section
variable {P : Program} {o : Oper} {a : Act} {w : World} {R : Type} {K : Env -> Option R} {r : R} {next : Act -> World -> Prop} {Q : Exit -> Act -> World -> Prop} {c : Cx} {d : Nat} {T : Tab} {env : Env}
theorem RP.rowed (h : RP c env tmps w ps vs) (hn : env.length <= n) {xs : List t.D} {L : List Leaf} {cells : Array Value} {dp : Bool} (hp : ps n = .con .agg L) (hs : ∀ l ∈ L, l.m.settled = true) (hv : vs n = .agg cells) (hx : Asms t xs L dp)
  (hm : xs.length <= maxLen) :
  RP c env tmps (w.alloc (.cells cells e (0, 0))) (upd ps n (.con .val [⟨.slice e t, xs, .at_ (if dp then .dp else .sh)⟩])) (upd vs n (.slice (some ⟨w.heap.size, 0, none⟩) xs.length xs.length)) := by
 obtain ⟨U, cs, bs, G, hno⟩ := h;obtain ⟨n1, n2, n3, n4, n5⟩ := Y2m U G hn hp rfl hs;rw [hv] at n1;rw [n1] at n3 n5
 let v' : Value := .slice (some ⟨w.heap.size, 0, none⟩) xs.length xs.length
 let F : Nat -> List Nat := fun l => bs n (l + 1)
 let y : List Nat := if dp then (List.range' 0 L.length).flatMap F else []
 have E : ∀ b ∈ y, ∃ l, b ∈ bs n l :=gr;have hnd1 : y.Nodup := by
  simp [y];split
  ·exact Y2d (fun l => G.nodup _ _) (fun l l' b h1 h2 => by have := (G.disj _ _ _ _ _ h1 h2).2; omega) _ _
  ·exact X13
 have N : ∀ b ∈ y, b < w.heap.size := fun b i => let ⟨l, B⟩ := E b i; (G.own _ _ _ B).2
 have key := RP.reformAt (m := n) (w' := w.alloc (.cells cells e (0, 0))) (av := .con .val [⟨.slice e t, xs, .at_ (if dp then .dp else .sh)⟩]) (v := v') U G hno hn hn (Yd (by simp [Mode.settled])) ((Yw _ _).mono G.base) (fun b i _ => (Yw _ _).block b i) [v'] (fun l => if l = 1 then [w.heap.size] ++ y else []) ?_ ?_ ?_ ?_
 ·rw [Yh] at key;exact key
 ·intro l b i;by_cases B : l = 1
  ·rw [X4 B] at i;rcases X6.1 i with i | i
   ·rw [Xb.1 i, Y3u]; exact ⟨om, .inl (Xd _)⟩
   ·obtain ⟨l', I⟩ := E b i;exact ⟨by rw [Y3u]; have := N b i; omega, .inr ⟨l', .inl I⟩⟩
  ·grind
 ·grind
 ·grind
 ·intro s' hk;have C : s'.bs n = fun l => if l = 1 then [w.heap.size] ++ y else [] := Y0 _ _ _
  have ebs1 : s'.bs n 1 = [w.heap.size] ++ y := by rw [C]; rfl
  have W : s'.cs n = [v'] := Y0 _ _ _;have D : ∀ b, RoS c (SS env ps tmps vs w cs bs) b -> b < w.heap.size -> RoS c s' b /\ (w.alloc (.cells cells e (0, 0))).heap[b]? = w.heap[b]? := hk;have Z : dp = false -> ∀ l b, b ∈ bs n l -> RoS c s' b := by
   intro hd l b i;refine ⟨fun r l' j => ?_, .inr (G.own _ _ _ i).1⟩;by_cases O : r = n
   ·subst O;rw [C] at j;by_cases I : l' = 1
    ·simp only [X4 I] at j;have : y = [] := by simp only [y, hd]; rfl
     rw [this, Xh, Xb] at j;have : b < w.heap.size := (G.own _ _ _ i).2;omega
    ·simp only [X2 I] at j; simp at j
   ·have e2 : s'.bs r = bs r := by show upd (upd bs n _) n _ r = _; rw [Y1 _ _ O, Y1 _ _ O]
    rw [e2] at j;exact O (G.disj _ _ _ _ _ j i).1
  refine ⟨⟨W, by rw [C]; rfl⟩, by rw [W]; rfl, fun l B => ?_, ?_⟩
  ·grind
  ·intro l lf u B hu;rw [W] at hu;have hl0 : l = 0 :=gr;subst hl0;obtain rfl : lf = ⟨.slice e t, xs, .at_ (if dp then .dp else .sh)⟩ := by simpa [leafAt] using B.symm
   have hu' : u = v' := by simpa using hu.symm
   rw [hu'];have hcl : cells.toList.length = L.length := n3.symm;have A : ∃ bb, bb = y /\ El (Rep (RoS c s') (w.alloc (.cells cells e (0, 0))) t (if dp then Lvl.dp else .sh).sub) t.sz cells.toList xs bb := by
    cases hd : dp with
    | true =>
     refine ⟨_, by simp [y, hd]; rfl, Asms.el (F := F) hx n3 (fun l lf u B hu => ?_)⟩;obtain ⟨lv, ⟨hm1, _⟩, g⟩ := n5 l lf u B hu;have g : Rep (RoS c s') (w.alloc (.cells cells e (0, 0))) lf.t lv [u] lf.x (bs n (l + 1)) := Rep.move D (fun b i => (Yw _ _).block b (G.own _ _ _ i).2) g;rw [X14];have X := Asms.deep hx hd;have := Xa.1 X lf (X8 B);obtain ⟨tt, x, m⟩ := lf;simp only at hm1;subst hm1;cases tt with
     | slice e' t' =>
      have : lv = .dp := by simpa using this
      subst this;exact g
     | int k => exact g
     | bool => exact g
     | str => exact g
     | unit => exact g
     | pair p q =>
      exfalso
      -- leaves are never aggregates: their cells are one
      have h1 := g.len;have h2 := Rep.one g;have Y : ∀ {ys : List t.D} {M : List Leaf} {dd : Bool}, Asms t ys M dd -> ∀ z ∈ M, z.t.isAgg = false := Y7h;have := Y hx _ (X8 B);simp [Ty.isAgg] at this
    | false =>
     refine ⟨[], by simp only [y, hd]; rfl, ?_⟩;have := Asms.el (S := RoS c s') (w := w.alloc (.cells cells e (0, 0))) (Lv := .ro) (F := fun _ => []) (k := 0) hx n3 (fun l lf u B hu => by
      obtain ⟨lv, hm1, g⟩ := n5 l lf u B hu;refine Rep.move (S := fun b => RoS c (SS env ps tmps vs w cs bs) b \/ b ∈ bs n (l + 1)) (fun b i N => ?_) sm g.ro;rcases i with i | i
      ·exact D b i N
      ·exact ⟨Z hd _ b i, (Yw _ _).block b N⟩)
     have e0 : (List.range' 0 L.length).flatMap (fun _ => ([] : List Nat)) = [] :=sm;rw [e0] at this;exact this
   have V : (w.alloc (.cells cells e (0, 0))).ownsRow 0 e t.sz v' xs.length cells.toList := by
    refine World.ownsRow_lit w cells xs.length (X2f _) hm ?_;obtain ⟨bb, _, A⟩ := A;rw [<- X17];exact A.len
   obtain ⟨bb, rfl, A⟩ := A;have goal : Rep (RoS c s') (w.alloc (.cells cells e (0, 0))) (.slice e t) (if dp then .dp else .sh) [v'] xs (s'.bs n 1) := by
    refine ⟨v', cells.toList, [w.heap.size], y, rfl, ebs1, A, ?_⟩;cases dp with
    | true => exact ⟨rfl, V⟩
    | false => exact ⟨rfl, V⟩
   exact LeafRel.of_rep (by cases dp <;> trivial) goal
theorem Y8z (hT : TabOk P T) {t : TypeId} {b : Array (Nat × Operand)} {env' : Env} {xs : List te.ty.D} {dp : Bool} (G : o.op = .buildSlice t n b) (E : o.dst = some d) (M : RE c env a.tmps w) (hd : d < env.length) (ht : elemAt T t = some te) (L : n = b.size) (h1 : n <= 1000) (h2 : te.ty.sz <= 1000)
  (he : elemParts te.ty env 0 b.toList = some (env', xs, dp)) (hK : K (setD (some d) env' (.con .val [⟨.slice te.id te.ty, xs, .at_ (if dp then .dp else .sh)⟩])) = some r) (hn : Next c a K r env.length next) : o.wp P a w next Q := by
 obtain ⟨vs, h⟩ := M;obtain ⟨hty, A, y, hsz, hby, i0, hi0, hi1, hi2, hi3⟩ := TabOk.elem hT ht;have h0 := h.addVal (n := env.length) (Xd _) rfl (av := .con .agg []) (v := .agg #[]) (fun cs bs W => ⟨[], ⟨rfl, rfl⟩, rfl, fun l lf u hl hu => by simp [leafAt] at hl⟩) ⟨by simp [AV.refs], by simp [AV.ptrs]⟩
 let z := zeroVal te.ty
 let Z : Array Value := if n * te.ty.sz = 0 then #[] else z.cells
 let C : Array Value := (Array.range (n * te.ty.sz)).map fun x => Z[x % Z.size]!
 have hC : C.toList.length = b.toList.length * te.ty.sz := by simp [C, L]
 obtain ⟨L', U, vs', k1, k2, X, k4, Y, k6, k7⟩ := Y9r (c := c) (w := w) (t := te.ty) (tmps := a.tmps) (N := env.length) b.toList (Z := C.toList) (D := []) he h0 rfl (fun r M => Y1 _ _ M) (Y0 _ _ _) sm (by rw [Y0]) sm hC;rw [X2o] at X Y;have O : xs.length = n := by simp_all
 have V := X.rowed (n := env.length) (e := te.id) (t := te.ty) (xs := xs) (dp := dp) om (Y0 _ _ _) Y k4 k6 (by simp [maxLen]; omega);rw [Yh, <- k2] at V;refine fin E (v := .slice (some ⟨w.heap.size, 0, none⟩) n n) (w' := w.alloc (.cells U.toArray te.id (0, 0))) ?_ om k2 V (by rw [Y0, O]) hK hn;have F : ¬ 2 ^ 24 < n * te.ty.sz := by
  have : n * te.ty.sz <= 1000 * 1000 := Nat.mul_le_mul h1 h2;omega
 have g : Instr.fill (fun i => some (i * te.ty.sz, te.ty.sz)) C (b.toList.map fun p => (p.1, evT a.tmps p.2)) = some U.toArray := by simp_all
 have j := TabOk.sizeOf hT y;have B := TabOk.zero hT y;have q : (b.map fun p => (p.1, a.eval p.2)).toList = b.toList.map fun p => (p.1, evT a.tmps p.2) := by rw [Array.toList_map, Y6]
 by_cases m : n * te.ty.sz = 0
 ·have I : C = (Array.range (n * te.ty.sz)).map fun x => (#[] : Array Value)[x % (#[] : Array Value).size]! := by simp only [C, Z, X4 m]
  rw [I, m] at g;simp at g;simp [execOp, G, Instr.buildSlice, run_underlying A, j, m, q, g, newRow, newObj, Sem.run, Y6]
  try rfl
 ·have I : C = (Array.range (n * te.ty.sz)).map fun x => z.cells[x % z.cells.size]! := by simp only [C, Z, X2 m]
  rw [I] at g;simp [execOp, G, Instr.buildSlice, run_underlying A, j, B, m, F, q, g, newRow, newObj, Sem.run, Y6, z]
  try rfl
end
theorem Y9s {α : Type} [Inhabited α] (l : List α) : ∀ (n i : Nat), (List.replicate n l).flatten[i]? = if i < n * l.length then some (l[i % l.length]!) else none
 | 0, i => sm
 | n + 1, i => by
  rw [List.replicate_succ, List.flatten_cons, X2d, Nat.one_mul];by_cases h : i < l.length
  ·rw [Xj h, Nat.mod_eq_of_lt h, X4 om];simp [h]
  ·rw [Xc om, Y9s l n (i - l.length)];by_cases b : i < n * l.length + l.length
   ·rw [X4 om, X4 b];congr 2;have : i % l.length = (i - l.length) % l.length := Nat.mod_eq_sub_mod om;rw [this]
   ·grind
theorem Ye1 (z : Array Value) (n : Nat) : (madeCells z (n * z.size)).toList = (List.replicate n z.toList).flatten := by
 apply X24;intro j;rw [Y9s, X17];by_cases b : j < n * z.size
 ·rw [X4 b];have g : j % z.size < z.size := Nat.mod_lt _ (by
   apply Xs;intro h;have : z.size = 0 :=om;rw [this] at b;simp at b)
  simp [madeCells, b, g]
 ·rw [X2 b];simp [madeCells, b]
section
variable {P : Program} {o : Oper} {a : Act} {w : World} {R : Type} {K : Env -> Option R} {r : R} {next : Act -> World -> Prop} {Q : Exit -> Act -> World -> Prop} {c : Cx} {d : Nat} {T : Tab} {env : Env}
theorem Y9t (hT : TabOk P T) {t : TypeId} {l X : Operand} {n m : Int} (O : o.op = .makeSlice t l X) (q : o.dst = some d) (U : RE c env a.tmps w) (hd : d < env.length) (ht : elemAt T t = some te) (z : int1 (rd none env l) = some (.i64, n)) (hc : int1 (rd none env X) = some (.i64, m)) (M : n = m) (h0 : 0 <= n) (D : n * te.bytes <= 140737488355328)
  (hK : K (setD (some d) env (.con .val [⟨.slice te.id te.ty, List.replicate n.toNat te.ty.dflt, .at_ .dp⟩])) = some r) (hn : Next c a K r env.length next) : o.wp P a w next Q := by
 obtain ⟨hty, B, Z, hsz, E, i0, F, G, hi2, I⟩ := TabOk.elem hT ht;subst M;obtain ⟨k, rfl⟩ : ∃ k : Nat, n = (k : Int) := ⟨n.toNat, om⟩;have el := U.int1 z;have ec := U.int1 hc;obtain ⟨vs, A, cs, bs, Y, N⟩ := U;have hkb : k * te.bytes <= 140737488355328 :=gr;have y : k <= maxLen := by
  have : k * 1 <= k * te.bytes := X36 _ E;simp [maxLen];omega
 obtain ⟨w', r1, W, j⟩ := run_make_full (P := P) w 0 t te.id i0 (zeroVal te.ty) te.ty.sz B F I G .i64 .i64 k gr y (X2f _)
 let p : Value := .slice (some ⟨w.heap.size, 0, none⟩) k k
 have hz : (zeroVal te.ty).cells.size = te.ty.sz := by rw [<- X17, Y1l, Y1c]
 have h : (madeCells (zeroVal te.ty).cells (k * te.ty.sz)).toList = (List.replicate k (zeroCells te.ty)).flatten := by
  rw [<- hz, Ye1, Y1l]
 rw [h] at W;have hlt : w.heap.size < w'.heap.size := (Y1m W _ rfl).2;have C := RP.reformAt (n := env.length) (m := env.length) (w' := w') (av := .con .val [⟨.slice te.id te.ty, List.replicate k te.ty.dflt, .at_ .dp⟩]) (v := p) A Y N (Xd _) (Xd _) (Yd (by simp [Mode.settled]))
  (Below.mono ⟨j.os, j.tape, j.output, j.size, fun b D => j.block b D sm⟩ Y.base) (fun b D _ => j.block b D sm) [p] (fun l => if l = 1 then [w.heap.size] else []) ?_ ?_ ?_ ?_
 ·rw [Yh] at C;refine fin q (v := p) (w' := w') ?_ hd rfl C (Y0 _ _ _) gr hn;simp [execOp, O, Y6, el, ec, r1]
  try rfl
 ·grind
 ·grind
 ·grind
 ·intro s' hk;have g : s'.bs env.length = fun l => if l = 1 then [w.heap.size] else [] := Y0 _ _ _
  have i : s'.cs env.length = [p] := Y0 _ _ _;refine ⟨⟨i, by rw [g]; rfl⟩, by rw [i]; rfl, fun l z => ?_, ?_⟩
  ·rw [g];simp at z;exact X2 om
  ·intro l lf u z hu;rw [i] at hu;have L : l = 0 :=gr;subst L;obtain rfl : lf = ⟨.slice te.id te.ty, List.replicate k te.ty.dflt, .at_ .dp⟩ := by simpa [leafAt] using z.symm
   have V : u = p :=gr;rw [V];refine LeafRel.of_rep trivial ⟨p, (List.replicate k (zeroCells te.ty)).flatten, [w.heap.size], [], rfl, by rw [g]; rfl, El.replicate _ _ (Y1c _) (Rep.zero _ _ _ _) k, ⟨rfl, ?_⟩⟩;rw [List.length_replicate];exact W
theorem Y7i {isSlice : Bool} {len cap : Nat} {a b : Option Int} (g : 0 <= a.getD 0) (h : a.getD 0 <= b.getD (len : Int)) (i : b.getD (len : Int) <= (len : Int)) (j : len <= cap) :
  (Instr.sliceBounds isSlice len cap (a.map (Value.int .i64)) (b.map (Value.int .i64)) none).run P w = .ok ((a.getD 0).toNat, (b.getD (len : Int)).toNat, cap) w := by
 cases a with
 | none => cases b with
  | none => simp [Instr.sliceBounds]
  | some b =>
   simp at g h i;simp [Instr.sliceBounds, run_sliceBound, g, h, (by omega : b <= (cap : Int))]
 | some a => cases b with
  | none =>
   simp at g h i;simp [Instr.sliceBounds, run_sliceBound, g, h]
  | some b =>
   simp at g h i;simp [Instr.sliceBounds, run_sliceBound, g, h, (by omega : b <= (cap : Int)), (by omega : 0 <= b), Int.toNat_of_nonneg (by omega : 0 <= b)]
theorem Y9u (hT : TabOk P T) {t : TypeId} {D C : Option Operand} {b g : Option Int} {s : ByteArray} (A : o.op = .slice t x D C none) (i : o.dst = some d) (B : RE c env a.tmps w) (M : d < env.length) (O : T.ty t = some .str) (U : str1 (rd none env x) = some s) (q : optInt env D = some b) (m : optInt env C = some g)
  (E : 0 <= b.getD 0) (F : b.getD 0 <= g.getD (s.size : Int)) (G : g.getD (s.size : Int) <= (s.size : Int)) (I : K (setD (some d) env (vStr (s.extract (b.getD 0).toNat (g.getD (s.size : Int)).toNat))) = some r) (N : Next c a K r env.length next) : o.wp P a w next Q := by
 have j := TabOk.str hT O;have ex := B.str1 U;have l : ∀ {y : Option Operand} {z : Option Int}, optInt env y = some z -> y.map (evT a.tmps) = z.map (Value.int .i64) := by
  intro y z h;cases y with
  | none => simp [optInt] at h; subst h; rfl
  | some y =>
   simp [optInt] at h;split at h
   ·rename_i n p;simp at h;subst h;simp [B.int1 p]
   ·simp at h
 refine finV B i (v := .string (s.extract (b.getD 0).toNat (g.getD (s.size : Int)).toNat)) ?_ M (fun vs cs bs _ => Y86 _ _ _) ⟨by simp [vStr, AV.refs, Leaf.refs], by simp [vStr, AV.ptrs]⟩ I N;have L := Y7i (P := P) (w := w) (isSlice := false) (len := s.size) (cap := s.size) E F G (Xd _);simp [execOp, A, Y6, ex, l q, l m, Instr.sliceAt, Instr.slice, run_underlying j, L]
end
theorem Ybv {A : Option Addr} {n cap l h : Nat} {xs : List τ.D} (G : Rep S w (.slice e τ) .ro [.slice A n cap] xs []) (X : l <= h) (W : h <= xs.length) :
  Rep S w (.slice e τ) .ro [sliced A l h cap τ.sz] ((xs.take h).drop l) [] := by
 obtain ⟨v, cells, N, O, V, e2, p, i⟩ := G;obtain ⟨rfl, rfl⟩ := X21.1 e2.symm;obtain rfl : v = .slice A n cap :=gr;obtain ⟨_, M, U, y, E, L, D⟩ := i;simp at y;obtain ⟨rfl, rfl, rfl⟩ := y;have B := El.take (n := τ.sz) h p (fun c x b h => Rep.ro_bs h);have C := El.drop (n := τ.sz) l B (fun c x b h => Rep.ro_bs h);refine ⟨sliced A l h cap τ.sz, _, [], [], rfl, rfl, C, rfl, (if cap = l then A else A.map (·.add (l * τ.sz))), cap - l, ?_, ?_, ?_, ?_⟩
 ·simp only [sliced];congr 1;simp only [X16, Xn];omega
 ·simp;omega
 ·intro z;split at z
  ·omega
  ·have : A = none := by cases A with
    | none => rfl
    | some a => simp at z
   have := L this;omega
 ·intro j u m;rw [X1n, X1m] at m;split at m
  ·rename_i F;obtain ⟨a, rfl, I, g⟩ := D _ u m;have q : cap ≠ l :=gr;rw [X2 q];refine ⟨a.add (l * τ.sz), rfl, by rw [Addr.add_block]; exact I, ?_⟩;rw [Y6c];exact g
  ·simp at m
section
variable {P : Program} {o : Oper} {a : Act} {w : World} {R : Type} {K : Env -> Option R} {r : R} {next : Act -> World -> Prop} {Q : Exit -> Act -> World -> Prop} {c : Cx} {d : Nat} {T : Tab} {env : Env}
theorem Ybw {α : Type} (x : List α) (a b : Option Int) (h : b.getD (x.length : Int) <= (x.length : Int)) : sliceOf x a b = (x.take (b.getD (x.length : Int)).toNat).drop (a.getD 0).toNat := by
 cases a <;> cases b <;> simp [sliceOf]
theorem Ye2 (hT : TabOk P T) {t : TypeId} {lo hi : Option Operand} {F G : Option Int} {lx : Leaf} {xs : List te.ty.D} (hop : o.op = .slice t x lo hi none) (X : o.dst = some d) (hr : RE c env a.tmps w) (hd : d < env.length) (ht : elemAt T t = some te)
  (hx : rd (some (.slice te.id te.ty)) env x = .con .val [lx]) (W : lx.as (.slice te.id te.ty) = some xs) (g : lx.m.live = true) (hlo : optInt env lo = some F) (hhi : optInt env hi = some G)
  (h0 : 0 <= F.getD 0) (h1 : F.getD 0 <= G.getD (xs.length : Int)) (h2 : G.getD (xs.length : Int) <= (xs.length : Int)) (hK : K (setD (some d) (freezeAll [lx] env) (.con .val [⟨.slice te.id te.ty, sliceOf xs F G, .at_ .ro⟩])) = some r) (hn : Next c a K r env.length next) : o.wp P a w next Q := by
 obtain ⟨hty, hund, htid, hsz, hby, i0, hi0, Y, hi2, hi3⟩ := TabOk.elem hT ht;obtain ⟨A, I, ex, hcp⟩ := hr.slice hx W g;have opt : ∀ {y : Option Operand} {z : Option Int}, optInt env y = some z -> y.map (evT a.tmps) = z.map (Value.int .i64) := by
  intro y z h;cases y with
  | none => simp [optInt] at h; subst h; rfl
  | some y =>
   simp [optInt] at h;split at h
   ·rename_i n Y;simp at h;subst h;simp [hr.int1 Y]
   ·simp at h
 obtain ⟨vs, C, cs, bs, i, O⟩ := hr;obtain ⟨cells, hv⟩ := Yo C i (some (.slice te.id te.ty)) x;rw [hx, ex] at hv;have D := (Y6b (ps := noP) (vs := vs) ⟨C, cs, bs, i, O⟩ (some (.slice te.id te.ty)) x).1;rw [hx] at D;have N : Held c (SS env noP a.tmps vs w cs bs) (.slice A xs.length I) lx := by
  obtain ⟨⟨k1, _⟩, _, k3⟩ := hv;have := k3 0 lx (.slice A xs.length I) rfl (by rw [k1]; rfl);obtain ⟨t', x', m⟩ := lx;cases m with
  | at_ lv => exact Rep.roS this.1 (fun b hb _ => hb) sm
  | bor r j p => exact this
  | dead => simp [Mode.live] at g
 obtain ⟨bs', h3, h4, h5⟩ := i.freezeAll_ [lx];have M := i.thaw (E := freezeAllE [lx] (ovl env noP)) h4 (h5 lx sm) N g;rw [Leaf.as_eq W] at M
 let L := (F.getD 0).toNat
 let H := (G.getD (xs.length : Int)).toNat
 have hrs := Ybv (l := L) (h := H) (xs := xs) M om om;have eo := Y1k (env := env) (ps := noP) [lx] (by
  intro l hl q U;exact D q (by simp only [AV.refs, Xi]; exact ⟨l, hl, U⟩)) (fun _ => .inl rfl)
 have B := (Yn [lx] env).2;have U : (freezeAllE [lx] (ovl env noP) env.length).quiet = true := by
  rw [eo, Yg gr]; rfl
 have h6 := h3.setVal (d := env.length) U (av := .con .val [⟨.slice te.id te.ty, sliceOf xs F G, .at_ .ro⟩]) (v := sliced A L H I te.ty.sz) (cells := [sliced A L H I te.ty.sz]) ⟨⟨rfl, rfl⟩, rfl, fun l lf u hl hu => by
  have hl0 : l = 0 :=gr;subst hl0;obtain rfl : lf = ⟨.slice te.id te.ty, sliceOf xs F G, .at_ .ro⟩ := by simpa [leafAt] using hl.symm
  have hu' : u = sliced A L H I te.ty.sz :=gr;rw [hu'];show Rep _ _ _ _ _ _ _ /\ True;rw [Ybw _ _ _ h2];exact ⟨hrs, trivial⟩⟩
 have hRP : RP c (freezeAll [lx] env) a.tmps w (upd noP (freezeAll [lx] env).length (.con .val [⟨.slice te.id te.ty, sliceOf xs F G, .at_ .ro⟩])) (upd vs env.length (sliced A L H I te.ty.sz)) := by
  refine ⟨by rw [B]; exact C, _, _, Rel.congr h6 ?_ ?_, fun r => ?_⟩
  ·show upd (freezeAllE [lx] (ovl env noP)) env.length _ = _;rw [eo, Yb (Xd _), B]
  ·show upd (ovlT a.tmps vs) env.length _ = _;rw [Yv om]
  ·rw [Yb (Xd _), <- eo, B];by_cases Z : r = env.length
   ·subst Z; rw [Y0]; exact ⟨by simp [AV.refs, Leaf.refs], by simp [AV.ptrs]⟩
   ·rw [Y1 _ _ Z];have := Y1b [lx] (ovl env noP) r;exact ⟨fun q U => (O r).1 q (this.1 q U), fun q U => (O r).2 q (this.2 q U)⟩
 refine fin X (v := sliced A L H I te.ty.sz) (w' := w) ?_ (by rw [B]; exact hd) B hRP (by rw [B, Y0]) hK hn;have hb := Y7i (P := P) (w := w) (isSlice := true) (len := xs.length) (cap := I) h0 h1 h2 hcp;have V := TabOk.sizeOf hT htid;simp [execOp, hop, Y6, ex, opt hlo, opt hhi, Instr.sliceAt, Instr.slice, run_underlying hund, hb, V, sliced, L, H]
end
section
variable {P : Program} {o : Oper} {a : Act} {w : World} {R : Type} {K : Env -> Option R} {r : R} {next : Act -> World -> Prop} {Q : Exit -> Act -> World -> Prop} {c : Cx} {d : Nat} {T : Tab} {env : Env}
theorem RP.storeBox (h : RP c env tmps w ps vs) {m : Nat} (hm : env.length <= m) (hps : ∀ q, q ≠ m -> ps q = .undef) {r : Nat} {e : BoxK} {A O B N : List Leaf} (hr : get env r = .con (.box e) (A ++ O ++ B)) (hO : ∀ l ∈ O, l.m.own = false) (hpm : ps m = .con k N) (hk : k.plain = true) (hsN : ∀ l ∈ N, l.m.settled = true) (hNO : N.length = O.length) (hfr : ∀ l, A.length <= l -> l < A.length + O.length -> nthB e.fix l = false) :
  ∃ (Bk : Nat) (cur : Array Value), tmps.getD r undef = .pointer (some ⟨Bk, 0, none⟩) /\ w.heap[Bk]? = some (.cells cur e.id (0, 0)) /\ cur.toList.length = A.length + O.length + B.length /\ (vs m).cells.toList.length = N.length /\ (∀ u ∈ (vs m).cells.toList, u.oneCell' = true) /\
   RP c (put env r (.con (.box e) (A ++ N ++ B))) tmps (w.setRow Bk (cur.toList.take A.length ++ (vs m).cells.toList ++ cur.toList.drop (A.length + O.length)).toArray) (upd ps m .undef) vs := by
 obtain ⟨hlen, cs, bs, i, hno⟩ := h;have hrl : r < env.length := Yx hr;have hrm : r ≠ m := X1c (X1e hrl hm);obtain ⟨m1, m2, m3, m4, m5⟩ := Y2m hlen i hm hpm hk hsN;have hav := i.av r;have e1 : (SS env ps tmps vs w cs bs).env r = .con (.box e) (A ++ O ++ B) := by show ovl env ps r = _; rw [Y7 hrl, hr]
 have e2 : (SS env ps tmps vs w cs bs).tm r = tmps.getD r undef := X4 om;rw [e1, e2] at hav;obtain ⟨⟨Bk, g1, g2, g3, g5⟩, h2, h3, h4⟩ := hav;have g2 : w.heap[Bk]? = some (.cells (cs r).toArray e.id (0, 0)) := g2;have g3 : bs r 0 = [Bk] := g3;have h2 : (A ++ O ++ B).length = (cs r).length := h2;have h3 : ∀ l, (A ++ O ++ B).length <= l -> bs r (l + 1) = [] := h3;have h4 : ∀ l lf u, leafAt (A ++ O ++ B) l = some lf -> (cs r)[l]? = some u -> LeafRel c (SS env ps tmps vs w cs bs) r l u lf := h4;simp only [Xl] at h2;refine ⟨Bk, (cs r).toArray, g1, g2, by simp; omega, by rw [<- m1, <- m3], fun u Z => ?_, ?_⟩
 ·rw [<- m1] at Z;obtain ⟨l, C⟩ := Xx Z;have hlt : l < (cs m).length := (X5.1 C).1;obtain ⟨lv, _, X⟩ := m5 l N[l] u (X1 om) C;exact Rep.one X u sm
 rw [<- m1]
 let cr : List Value := (cs r).take A.length ++ cs m ++ (cs r).drop (A.length + O.length)
 let br : Nat -> List Nat := fun l => if A.length < l /\ l <= A.length + O.length then bs m (l - A.length) else bs r l
 let w' := w.setRow Bk cr.toArray
 let s' : St := ⟨upd (upd (ovl env ps) m .undef) r (.con (.box e) (A ++ N ++ B)), ovlT tmps vs, w', upd cs r cr, upd (upd bs m (fun _ => [])) r br⟩
 have hw' : w'.heap[Bk]? = some (.cells cr.toArray e.id (0, 0)) := setRow_heap w Bk _ _ e.id (0, 0) g2;have hwo : ∀ b, b ≠ Bk -> w'.heap[b]? = w.heap[b]? := fun b I => setRow_other w Bk b _ I;have z : Bk ∈ bs r 0 := by rw [g3]; simp
 have hbr : ∀ l b, b ∈ br l -> (b ∈ bs m (l - A.length) /\ A.length < l /\ l <= A.length + O.length) \/ (b ∈ bs r l /\ ¬ (A.length < l /\ l <= A.length + O.length)) :=gr;have G : s'.bs r = br := Y0 _ _ _;have ecr : s'.cs r = cr := Y0 _ _ _;have eer : s'.env r = .con (.box e) (A ++ N ++ B) := Y0 _ _ _;have ebm : s'.bs m = fun _ => [] := by show upd _ _ _ m = _; rw [Y1 _ _ (Ne.symm hrm), Y0]
 have eem : s'.env m = .undef := by show upd _ _ _ m = _; rw [Y1 _ _ (Ne.symm hrm), Y0]
 have E : ∀ q, ¬ (q = r \/ q = m) -> s'.env q = ((SS env ps tmps vs w cs bs).env q).chg noG /\ s'.tm q = (SS env ps tmps vs w cs bs).tm q /\ s'.cs q = (SS env ps tmps vs w cs bs).cs q /\ s'.bs q = (SS env ps tmps vs w cs bs).bs q := fun q hq => by
  simp only [X2h] at hq;refine ⟨by rw [AV.chg_no]; show upd _ _ _ q = _; rw [Y1 _ _ hq.1, Y1 _ _ hq.2], rfl, Y1 _ _ hq.1, ?_⟩;show upd _ _ _ q = _;rw [Y1 _ _ hq.1, Y1 _ _ hq.2]
 -- places that stay
 have hlA : (cs r).length = A.length + O.length + B.length := h2.symm;have hcr : ∀ l, ¬ (A.length <= l /\ l < A.length + O.length) -> cr[l]? = (cs r)[l]? /\ (A ++ N ++ B)[l]? = (A ++ O ++ B)[l]? := by
  intro l C;by_cases h1 : l < A.length
  ·grind
  ·grind
 have F : ∀ q j, ¬ (q = r /\ A.length <= j /\ j < A.length + O.length) -> q ≠ m -> SamePl (SS env ps tmps vs w cs bs) s' q j := by
  intro q j hne M;have V : ∀ b ∈ bs q (j + 1), w'.heap[b]? = w.heap[b]? := fun b I => hwo b (fun e => by
   subst e;have := i.disj _ _ _ _ _ I z;omega)
  by_cases y : q = r
  ·subst y;have hj : ¬ (A.length <= j /\ j < A.length + O.length) := fun h => hne ⟨rfl, h⟩;obtain ⟨k1, k2⟩ := hcr j hj;refine ⟨fun lf u ⟨o1, o2, o3⟩ => ⟨?_, o2, gr⟩, ?_, V⟩
   ·rw [eer];rw [e1] at o1;simp only [AV.leaf?, Y2] at o1 ⊢;rw [k2]; exact o1
   ·grind
  ·have U := E q (by simp; exact ⟨y, M⟩);exact ⟨fun lf u ho => ho.chg U.1 U.2.2.1, U.2.2.2 ▸ rfl, V⟩
 have hptr : ∀ q, q ≠ m -> SamePtr (SS env ps tmps vs w cs bs) s' q := by
  intro q M;by_cases y : q = r
  ·subst y;exact ⟨rfl, fun e' ls he => ⟨e, _, eer⟩⟩
  ·have U := E q (by simp; exact ⟨y, M⟩);exact SamePtr.chg U.1 U.2.1
 have hLr : ∀ q, (∀ p ∈ (ovl env ps q).refs, ¬ (p.1 = r /\ A.length <= p.2 /\ p.2 < A.length + O.length) /\ p.1 ≠ m) /\ (∀ p ∈ (ovl env ps q).ptrs, p ≠ m) := by
  intro q;refine ⟨fun p W => ⟨fun hc => ?_, by have := (hno q).1 p W; omega⟩, fun p W => gr⟩;obtain ⟨lf, u, o1, o2, _⟩ := (AVRel.refs_own (i.av q)).1 p W;rw [hc.1, e1] at o1;simp only [AV.leaf?, Y2] at o1;rw [X7, Xc hc.2.1, Xj om] at o1;rw [hO lf (X8 o1)] at o2;simp at o2
 have hmain : Rel c s' := by
  refine Rel.step (s' := s') noG i (fun q => q = r \/ q = m) (fun q j => ¬ (q = r /\ A.length <= j /\ j < A.length + O.length) /\ q ≠ m) (fun q => q ≠ m) E (below_setRow (X1f _ _) (i.own _ _ _ z).1.1 _)
   (fun b I hD => hwo b (fun e => hD r 0 (.inl rfl) (e ▸ z))) (fun q l b hD I => ?_) (fun q1 l1 q2 l2 b hD hD' hb1 hb2 => ?_) (fun q l hD => ?_) (fun q _ => hLr q) (fun L => ⟨Yl L (fun q j Y => F q j Y.1 Y.2), Y13 L (fun q j Y => F q j Y.1 Y.2), fun q Y _ => hptr q Y⟩) (fun L q hD => ?_)
  ·have hsz : w'.heap.size = w.heap.size := setRow_size _ _ _;by_cases y : q = r
   ·subst y;rw [G] at I;rw [hsz];rcases hbr l b I with ⟨h5, _⟩ | ⟨h5, _⟩
    ·exact ⟨(i.own _ _ _ h5).2, .inr ⟨m, _, .inr rfl, h5⟩⟩
    ·exact ⟨(i.own _ _ _ h5).2, .inr ⟨q, _, .inl rfl, h5⟩⟩
   ·grind
  ·by_cases hq1 : q1 = r
   ·by_cases hq2 : q2 = r
    ·subst hq1; subst hq2;rw [G] at hb1 hb2;refine ⟨rfl, ?_⟩;rcases hbr l1 b hb1 with ⟨h5, h6⟩ | ⟨h5, h6⟩ <;> rcases hbr l2 b hb2 with ⟨h7, h8⟩ | ⟨h7, h8⟩ <;> have := i.disj _ _ _ _ _ h5 h7 <;> omega
    ·have e := hD'.resolve_left hq2;subst e;rw [ebm] at hb2; simp at hb2
   ·grind
  ·by_cases y : q = r
   ·subst y;rw [G];simp [br];split
    ·exact i.nodup _ _
    ·exact i.nodup _ _
   ·have e := hD.resolve_left y;subst e;rw [ebm]; exact X13
  ·by_cases y : q = r
   ·subst y;rw [eer];have etm : s'.tm q = tmps.getD q undef := e2;rw [etm];refine ⟨?_, ?_, fun l C => ?_, fun l lf u C Z => ?_⟩
    ·rw [ecr];have hml : (cs m).length = O.length :=om;refine ⟨Bk, g1, hw', ?_, g5.1, fun l C => ?_⟩
     case refine_2 =>
      have g5 : (cs q)[l]? = some (c.pinC l) := g5.2 l C;rw [<- g5];show ((cs q).take A.length ++ cs m ++ (cs q).drop (A.length + O.length))[l]? = _;by_cases hlt : l < A.length
      ·grind
      ·have hge : A.length + O.length <= l := by
        apply X15;intro h';have := hfr l om h';rw [this] at C; cases C
       rw [Xc (by rw [Xl, Xn, hml]; omega), X1n];congr 1;rw [Xl, Xn, hml];omega
     rw [G];show (if A.length < 0 /\ _ then _ else bs q 0) = [Bk];rw [X2 om];exact g3
    ·grind
    ·grind
    ·rw [ecr] at Z;rw [Y2] at C;by_cases hin : A.length <= l /\ l < A.length + O.length
     ·have hu2 : (cs m)[l - A.length]? = some u := by
       have Z : ((cs q).take A.length ++ cs m ++ (cs q).drop (A.length + O.length))[l]? = some u := Z;rw [X7, Xc (by rw [Xn]; omega), Xj (by rw [Xn]; omega)] at Z;rw [<- Z];congr 1;rw [Xn];omega
      rw [X7, Xc hin.1, Xj om] at C;obtain ⟨lv, ⟨hm1, hpin⟩, X⟩ := m5 _ lf u C hu2;obtain ⟨t, x, mm⟩ := lf;subst hm1;refine LeafRel.of_rep hpin ?_;have eb : s'.bs q (l + 1) = bs m (l - A.length + 1) := by
       rw [G];show (if A.length < l + 1 /\ l + 1 <= A.length + O.length then bs m (l + 1 - A.length) else _) = _;rw [X4 om];congr 1;omega
      rw [eb];exact Rep.move (fun b I C => L b I C) (fun b I => hwo b (fun e => by
       subst e;exact hrm (i.disj _ _ _ _ _ z I).1)) X
     ·obtain ⟨k1, k2⟩ := hcr l hin;rw [k1] at Z;rw [k2, <- Y2] at C;have h6 := h4 l lf u C Z;have := h6.chg (g := noG) (r' := q) L (Yl L (fun q' j' (Y : ¬ (q' = q /\ A.length <= j' /\ j' < A.length + O.length) /\ q' ≠ m) => F q' j' Y.1 Y.2)) (fun p W => (hLr q).1 p (by
       rw [show ovl env ps q = _ from e1];simp only [AV.refs, Xi];exact ⟨lf, Yc C, W⟩)) (by rw [G]; show (if A.length < l + 1 /\ l + 1 <= A.length + O.length then _ else bs q (l + 1)) = _; rw [X2 om]) (fun b I => hwo b (fun e => by
       subst e;have := i.disj _ _ _ _ _ I z;omega))
      have hno1 : lf.chg noG = lf := by obtain ⟨t, x, m⟩ := lf; cases m <;> rfl
      rw [hno1] at this;exact this
   ·have e := hD.resolve_left y;subst e;rw [eem];intro l;rw [ebm]
 refine ⟨by rw [Y5]; exact hlen, _, _, Rel.congr hmain ?_ rfl, fun q => ?_⟩
 ·rw [Yt hrl, Yb hm]
 ·rw [Yt hrl, Yb hm, Y5];by_cases y : q = r
  ·subst y;rw [Y0];refine ⟨fun p W => ?_, by simp [AV.ptrs]⟩;simp only [AV.refs, Xi] at W;obtain ⟨lf, D, W⟩ := W;simp only [X6] at D;have old : lf ∈ A ++ O ++ B -> p.1 < env.length := fun hx => (hno q).1 p (by
    rw [show ovl env ps q = _ from e1];simp only [AV.refs, Xi];exact ⟨lf, hx, W⟩)
   rcases D with (D | D) | D
   ·grind
   ·have := hsN lf D;obtain ⟨t, x, mm⟩ := lf;cases mm with
    | at_ _ => simp [Leaf.refs] at W
    | bor _ _ _ => simp [Mode.settled] at this
    | dead => simp [Mode.settled] at this
   ·exact old (by simp [D])
  ·rw [Y1 _ _ y];by_cases M : q = m
   ·subst M; rw [Y0]; exact ⟨by simp [AV.refs], by simp [AV.ptrs]⟩
   ·rw [Y1 _ _ M]; exact hno q
end
section
variable {P : Program} {o : Oper} {a : Act} {w : World} {R : Type} {K : Env -> Option R} {r : R} {next : Act -> World -> Prop} {Q : Exit -> Act -> World -> Prop} {c : Cx} {d : Nat} {T : Tab} {env : Env}
theorem RP.giveUp_ (i : ∀ r, Settled (ps r)) {q : Nat} : ∀ (ls : List Leaf) (j : Nat) {env : Env}, RP c env tmps w ps vs -> q < env.length -> (giveUp q j ls env).length = env.length /\ RP c (giveUp q j ls env) tmps w ps vs
 | [], j, env, h, hq => ⟨rfl, h⟩
 | l :: ls, j, env, h, hq => by
  unfold giveUp;split
  ·have b := (Y3s q j env).2;have m := h.freezeAll [⟨.unit, (), .bor q j []⟩] (fun l b p g => by
    rw [Xb.1 b] at g;simp [Leaf.refs] at g;rw [g];exact hq) i
   have e : FP.freezeAll [⟨.unit, (), .bor q j []⟩] env = freeze q j env := rfl;rw [e] at m;obtain ⟨y, k2⟩ := RP.giveUp_ i ls (j + 1) m (by rw [b]; exact hq);exact ⟨y.trans b, k2⟩
  ·exact RP.giveUp_ i ls (j + 1) h hq
theorem Y55 {env' : Env} {N : Nat} (b : o.dst = none) (g : (execOp a.eval o).run P w = .ok .skip w') (l : env'.length = N) (h : RP c env' a.tmps w' ps vs) (i : ∀ r, ps r = .undef) (j : K env' = some r) (m : Next c a K r N next) : o.wp P a w next Q := by
 unfold Oper.wp;rw [g];show next (a.put o.dst undef) w'
 rw [b];have e : ps = noP := by funext r; exact i r
 subst e;exact m _ _ _ j ⟨vs, h⟩ l rfl
theorem Ybj {e : BoxK} {off : Nat} : ∀ {n : Nat}, e.free off n = true -> ∀ l, l < n -> nthB e.fix (off + l) = false
 | 0, _, l, hl => om
 | n + 1, h, l, hl => by
  simp [BoxK.free] at h;by_cases e' : l = n
  ·grind
  ·exact Ybj h.2 l om
theorem Y90 (hT : TabOk P T) {t : TypeId} {x v : Operand} {g : Env} {q off : Nat} {e : BoxK} {b : List Leaf} {sub : List Leaf} (hop : o.op = .store t x v) (F : o.dst = none) (L : RE c env a.tmps w) (ht : T.ty t = some τ) (hta : takeAs τ env v = some (g, ls)) (hx : rd none g x = .path q off)
  (E : get (giveUp q off sub g) q = .con (.box e) b) (Z : off + τ.sz <= b.length) (j : ((takeLs τ.sz (dropLs off b)).all fun l => !l.m.own) = true) (z : e.free off τ.sz = true) (hK : K (put (giveUp q off sub g) q (.con (.box e) (setLeaves b off ls))) = some r) (hn : Next c a K r env.length next) : o.wp P a w next Q := by
 obtain ⟨O, hty⟩ := Y23 hta;have C := Y1e hty;obtain ⟨vs, h⟩ := L;obtain ⟨X, y⟩ := Y18 h (fun r => .inl rfl) O (Xd _) rfl;have p := Yy O;have hs1 : ∀ r, Settled (upd noP env.length (.con τ.kind ls) r) := Settled.upd (fun r => .inl rfl) _ (.inr ⟨_, _, rfl, p⟩)
 -- the address
 have G : ∃ B, a.tmps.getD q undef = .pointer (some ⟨B, 0, none⟩) /\ evT a.tmps x = .pointer (some ⟨B, off, none⟩) /\ q < g.length := by
  obtain ⟨cs, bs, M, _⟩ := y.rel;obtain ⟨cells, hv⟩ := Yo y.len M none x;rw [hx] at hv;obtain ⟨e', ls', B, k1, k2, k3⟩ := hv;have I : q < g.length := by
   have := (Y6b y none x).2 q (by rw [hx]; simp [AV.ptrs]);exact this
  refine ⟨B, ?_, k3, I⟩;have e2 : ovlT a.tmps (upd vs env.length (evT a.tmps v)) q = a.tmps.getD q undef := X4 (by have := y.len; omega);rw [<- e2];exact k2
 obtain ⟨B, b1, b2, I⟩ := G;obtain ⟨Y, h3⟩ := RP.giveUp_ hs1 sub off y I
 -- the old content, cut in three
 have ec := Y9q b off τ.sz Z;rw [Yq, Yr] at j;rw [ec] at E;have A : (b.take off).length = off :=gr;have i : ((b.drop off).take τ.sz).length = τ.sz :=gr;obtain ⟨Bk, cur, g1, g2, g3, g4, g5, U⟩ := h3.storeBox (m := env.length) om (fun q I => Y1 _ _ I) E (fun l X => by simpa using Xa.1 j l X) (Y0 _ _ _) (Y1o τ) p (by rw [i, C]) (fun l y E => by
  rw [A] at y E;rw [i] at E;have := Ybj z (l - off) om
  rwa [show off + (l - off) = l by omega] at this)
 rw [A, i] at U;rw [Y0] at g4 g5 U;have : Bk = B :=gr;subst this;rw [A, i] at g3;have V : b.take off ++ ls ++ b.drop (off + τ.sz) = setLeaves b off ls := by rw [Y41 _ _ _ om, C]
 rw [V] at U;refine Y55 F (w' := w.setRow Bk (cur.toList.take off ++ (evT a.tmps v).cells.toList ++ cur.toList.drop (off + τ.sz)).toArray) ?_ (by rw [Y5, Y, X]) U (fun r => ?_) hK hn
 ·have D := TabOk.sizeOf hT ht;have W : (evT a.tmps v).cells.size = τ.sz :=gr;have N := run_storeCells_at (P := P) Bk off e.id (evT a.tmps v).cells.toList 0 cur w g2 gr g5;rw [X2i, g4, C] at N;simp [execOp, hop, Y6, b2, Instr.storeAt, Instr.sureAddr, storeVar, D, W, N]
 ·by_cases L : r = env.length
  ·subst L; rw [Y0]
  ·rw [Y1 _ _ L, Y1 _ _ L]; rfl
end
section
variable {P : Program} {o : Oper} {a : Act} {w : World} {R : Type} {K : Env -> Option R} {r : R} {next : Act -> World -> Prop} {Q : Exit -> Act -> World -> Prop} {c : Cx} {d : Nat} {T : Tab} {env : Env}
theorem TabOk.fnZero (hT : TabOk P T) (h : T.isFn e = true) (w : World) : ∃ z, (zeroValue e).run P w = .ok z w /\ z.oneCell' = true := by
 obtain ⟨i, z, ps, rs, v, b, l, g, j, m⟩ := TabOk.fn hT h;exact ⟨z, by simp [zeroValue, typeInfo, b, g], j⟩
theorem TabOk.fnSize (hT : TabOk P T) (h : T.isFn e = true) (w : World) : (Go.sizeOf e).run P w = .ok 1 w := by
 obtain ⟨i, z, ps, rs, v, b, g, j, l, m⟩ := TabOk.fn hT h;simp [Go.sizeOf, typeInfo, b, g]
theorem TabOk.fnAgg (hT : TabOk P T) (h : T.isFn e = true) (w : World) : (Go.isAgg e).run P w = .ok false w := by
 obtain ⟨i, z, ps, rs, v, g, j, l, m, b⟩ := TabOk.fn hT h;unfold Go.isAgg;simp [run_underlying b]
theorem Yd5 {z : Value} (h : z.oneCell' = true) : z.cells = #[z] := by
 cases z <;> first | rfl | simp [Value.oneCell'] at h
theorem Yb0 (hT : TabOk P T) (C : o.op = .alloc e) (g : o.dst = some d) (M : RE c env a.tmps w) (G : d < env.length) (I : T.isFn e = true) (E : K (setD (some d) env (.con (.box ⟨e, false, []⟩) [⟨.bool, false, .dead⟩])) = some r) (L : Next c a K r env.length next) : o.wp P a w next Q := by
 obtain ⟨z, N, j⟩ := hT.fnZero I w;obtain ⟨vs, h⟩ := M;have D := h.reform (n := env.length) (m := env.length) (Xd _) (Xd _) (av := .con (.box ⟨e, false, []⟩) [⟨.bool, false, .dead⟩]) (v := .pointer (some ⟨w.heap.size, 0, none⟩)) (w' := w.alloc (.cells #[z] e (0, 0))) ⟨by simp [AV.refs, Leaf.refs], by simp [AV.ptrs]⟩ (fun cs bs i => ?_)
 ·refine fin g (v := .pointer (some ⟨w.heap.size, 0, none⟩)) (w' := w.alloc (.cells #[z] e (0, 0))) ?_ G rfl (by rw [Yh] at D; exact D) (Y0 _ _ _) E L;simp [execOp, C, Instr.alloc, N, newVar, newRow, newObj, Sem.run, Yd5 j]
  try rfl
 ·refine ⟨(Yw _ _).mono i.base, fun b y _ => (Yw _ _).block b y, [z], fun l => if l = 0 then [w.heap.size] else [], fun l b y => ?_, fun l O b y F => ?_, fun l => ?_, fun A => ?_⟩
  ·simp_all
  ·grind
  ·grind
  ·refine ⟨⟨w.heap.size, rfl, ?_, by simp [upd, nthB]⟩, by simp only [Y0]; rfl, fun l p => ?_, fun l lf u p q => ?_⟩
   ·simp only [Y0];exact Y4p _ _
   ·simp only [Y0];rw [X2 om]
   ·simp [Y0] at q;have B : l = 0 :=gr;subst B;have q : z = u := by simpa using q
    have p : (⟨.bool, false, .dead⟩ : Leaf) = lf := by simpa [leafAt] using p
    subst p; subst q;refine ⟨?_, j⟩;simp only [Y0];rfl
theorem Ybx (hT : TabOk P T) {t : TypeId} {caps : List Cap} (p : o.op = .load t x) (i : o.dst = some d) (j : RE c env a.tmps w) (I : d < env.length) (N : T.isFn t = true) (C : rd none env x = .fptr f caps) (G : K (setD (some d) env (.cloS f caps)) = some r) (L : Next c a K r env.length next) : o.wp P a w next Q := by
 have g := j.refs none x;rw [C] at g;have h : ∀ vs cs bs, Rel c (SS env noP a.tmps vs w cs bs) -> ∃ us, SelfAt c (SS env noP a.tmps vs w cs bs) f caps (evT a.tmps x) us := by
  intro vs cs bs b;obtain ⟨cells, A⟩ := j.val none x vs cs bs b;rw [C] at A;exact A
 obtain ⟨vs, z⟩ := j;have j : RE c env a.tmps w := ⟨vs, z⟩;obtain ⟨cs, bs, b, M⟩ := z.rel;obtain ⟨us, B, y, k2, W, m, X⟩ := h vs cs bs b;have m : w.cell? ⟨B, 0, none⟩ = some (.func (.func f) #[] us.toArray) := m;refine finV (av := .cloS f caps) j i (v := .func (.func f) #[] us.toArray) ?_ I (fun vs cs bs b => ?_) ⟨by simp [AV.refs], g.2⟩ G L
 ·simp [execOp, p, Y6, y, Instr.loadAt, Instr.sureAddr, loadVar, TabOk.fnAgg hT N, load, Sem.run, m]
 ·obtain ⟨l, B', D, O, U, E, V⟩ := h vs cs bs b;rw [y] at D;have F : B = B' := by simpa using D
  subst F;have q : w.cell? ⟨B, 0, none⟩ = some (.func (.func f) #[] l.toArray) := E;rw [m] at q;have e2 : us = l :=gr;subst e2;exact ⟨[], evT a.tmps x, us, rfl, B, y, O, U, E, V⟩
theorem Y70 {cs : List Cap} (i : o.op = .nilCheck x) (b : o.dst = some d) (g : RE c env a.tmps w) (z : d < env.length) (j : rd none env x = .cloS f cs) (y : K (setD (some d) env (.cloS f cs)) = some r) (A : Next c a K r env.length next) : o.wp P a w next Q := by
 obtain ⟨vs, h⟩ := g;have g : RE c env a.tmps w := ⟨vs, h⟩;obtain ⟨m, bs, q, _⟩ := h.rel;obtain ⟨cells, l⟩ := Yo h.len q none x;rw [j] at l;obtain ⟨C, us, p, B⟩ := l;refine finV g b (v := evT a.tmps x) ?_ z (j ▸ g.val none x) (j ▸ g.refs none x) y A;simp [execOp, i, Y6, p]
theorem Yby {caps : List Cap} (h : SelfAt c s f caps v us) : ValCs c s (caps.map (capAV f caps)) us := by
 have j : ∀ {cs : List Cap} {b : List Value}, CapRels c s v cs b -> ValCs c s (cs.map (capAV f caps)) b := by
  intro cs
  induction cs with
  | nil => intro b h; exact h
  | cons p cs y =>
   intro b ⟨u, i, e, g, l⟩;refine ⟨u, i, e, ?_, y l⟩;cases p with
   | path r off => exact ⟨[], g⟩
   | ro x =>
    obtain ⟨A, C, e2, m, z⟩ := Y54 (c := c) (s := s) (xs := [x]) (vs := [u]) ⟨u, [], rfl, g, rfl⟩;simp at e2;obtain ⟨rfl, _⟩ := e2;exact m
   | self => obtain rfl : u = v := g; exact ⟨[], us, h⟩
 obtain ⟨B, _, _, _, _, q⟩ := h;exact j q
theorem Ybz (f : FuncId) (caps : List Cap) (p : Cap) : (capAV f caps p).refs = [] := by
 cases p with
 | path r off => rfl
 | ro x => exact Y7e x
 | self => rfl
theorem Yc0 (hT : TabOk P T) {t : TypeId} {x v : Operand} {K : Env -> Option R} (hop : o.op = .store t x v) (hdst : o.dst = none) (hr : RE c env a.tmps w) (ht : T.isFn t = true) (G : storeFn t x v env K = some r) (hn : Next c a K r env.length next) : o.wp P a w next Q := by
 unfold storeFn at G;split at G
 ·rename_i q f cs hx hv;split at G
  ·rename_i e t0 x0 hg;split at G
   ·rename_i O;obtain ⟨vs, Z⟩ := hr;have hr : RE c env a.tmps w := ⟨vs, Z⟩;have D := hr.refs none v;rw [hv] at D;obtain ⟨g, bs, j, hno⟩ := Z.rel;have hqe : q < env.length := Yx hg;obtain ⟨_, hvx⟩ := Yo Z.len j none x;rw [hx] at hvx;obtain ⟨e', ls', B', p1, p2, p3⟩ := hvx;obtain ⟨_, hvv⟩ := Yo Z.len j none v;rw [hv] at hvv;obtain ⟨us, u1, u2⟩ := hvv;have hav := j.av q;rw [show (SS env noP a.tmps vs w g bs).env q = .con (.box e) [⟨t0, x0, .dead⟩] by show ovl env noP q = _; rw [Y7 hqe]; exact hg] at hav;obtain ⟨⟨B, g1, g2, g3, _⟩, h2, h3, h4⟩ := hav;have hBB : B' = B :=gr;subst hBB;have g2 : w.heap[B']? = some (.cells (g q).toArray e.id (0, 0)) := g2;have g3 : bs q 0 = [B'] := g3;have A : B' ∈ bs q 0 := by rw [g3]; simp
    have hlc : (g q).length = 1 := by rw [<- h2]; rfl
    let Y : Value := .func (.func f) #[] us.toArray
    let w' := w.setRow B' #[Y]
    have hw' : w'.heap[B']? = some (.cells #[Y] e.id (0, 0)) := setRow_heap w B' _ _ e.id (0, 0) g2;have hwo : ∀ b, b ≠ B' -> w'.heap[b]? = w.heap[b]? := fun b V => setRow_other w B' b _ V
    let caps : List Cap := cs.map fun c => if c.1 = q then Cap.self else Cap.path c.1 c.2
    let E : Nat -> AV := upd (chgE (killG q) (ovl env noP)) q (.fptr f caps)
    have hk0 := j.killRoot_ q;obtain ⟨hk1, F⟩ := hk0;have M := j.own _ _ _ A;have hre := hk1.reform (n := q) (m := q) (w' := w') (fun r' => ⟨fun z i => ⟨(F r').1 z i, (F r').1 z i⟩, fun z i => ⟨(F r').2 z i, (F r').2 z i⟩⟩) (below_setRow (X1f _ _) M.1.1 _) (fun b V hne => hwo b (fun e => hne 0 (by rw [e]; exact A))) (.fptr f caps) (.pointer (some ⟨B', 0, none⟩)) (g q) (fun _ => []) (fun l b V => by simp at V) (fun l l' b V => by simp at V) (fun l => X13) (fun hkeep => ?_)
    ·have e1 : upd (upd (chgE (killG q) (ovl env noP)) q .undef) q (.fptr f caps) = ovl (put (killRoot q env) q (.fptr f caps)) noP := by
      rw [Yh];have hl1 : (killRoot q env).length = env.length := Ya q env;rw [Yt (by simp_all)];unfold killRoot;rw [Yt (by rw [Y8]; exact hqe), Yh, Y1s _ _ noP (fun _ => .inl rfl)]
     have e2 : upd (ovlT a.tmps vs) q (.pointer (some ⟨B', 0, none⟩)) = ovlT a.tmps vs := by
      funext r';by_cases y : r' = q
      ·subst y; rw [Y0]; exact g1.symm
      ·rw [Y1 _ _ y]
     have hfin : RP c (put (killRoot q env) q (.fptr f caps)) a.tmps w' noP vs := by
      have I : (put (killRoot q env) q (.fptr f caps)).length = env.length := by rw [Y5, Ya]
      refine ⟨by rw [I]; exact Z.len, _, _, Rel.congr hre e1 e2, fun r' => ?_⟩;rw [<- e1, Yh, I];by_cases y : r' = q
      ·subst y;rw [Y0];refine ⟨by simp [AV.refs], fun z i => ?_⟩;have : ∀ (L : List (Nat × Nat)) (z : Nat), z ∈ capRoots (L.map fun c => if c.1 = r' then Cap.self else Cap.path c.1 c.2) -> z ∈ L.map (·.1) := by
        intro L
        induction L with
        | nil => intro z h; simp [capRoots] at h
        | cons p L ih =>
         intro z h;simp [capRoots] at h;rcases h with h | h
         ·split at h
          ·simp [Cap.roots] at h
          ·simp [Cap.roots] at h; subst h; simp
         ·exact X3 _ (ih _ h)
       exact D.2 z (this cs z i)
      ·rw [Y1 _ _ y];have hf := Y14 q;refine ⟨fun z i => (hno r').1 z ((Yi (Y14 q) _).1 z i), fun z i => (hno r').2 z ((Yi (Y14 q) _).2 z i)⟩
     refine Y55 hdst (w' := w') (ps := noP) ?_ (by rw [Y5, Ya]) hfin (fun _ => rfl) G hn;have U := run_storeCells_at (P := P) B' 0 e.id [Y] 0 (g q).toArray w g2 (by simp [hlc]) (fun u hu => by rw [Xb.1 hu]; rfl);have e3 : (g q).toArray.toList.take 0 ++ [Y] ++ (g q).toArray.toList.drop (0 + 1) = [Y] := by
      have : (g q).drop 1 = [] := List.drop_eq_nil_iff.2 om;simp [this]
     simp only [X30, X2i] at U;rw [e3] at U;have hsz := TabOk.fnSize hT ht w;have hst2 : (storeCells ⟨B', 0, none⟩ [.func (.func f) #[] us.toArray]).run P w = .ok () w' := U;simp [execOp, hop, Y6, p3, u1, Instr.storeAt, Instr.sureAddr, storeVar, hsz, Value.cells, hst2]
    ·have eq0 : (upd (upd bs q (fun _ => [])) q (fun _ => [])) = upd bs q (fun _ => []) := Yh _ _ _ _;refine ⟨fun l => ?_, us, B', rfl, ⟨fun r' l N => ?_, .inr M.1⟩, ?_, ?_, ?_⟩
     ·show (upd (upd bs q (fun _ => [])) q (fun _ => [])) q l = [];rw [Y0]
     ·have N : B' ∈ (upd (upd bs q (fun _ => [])) q (fun _ => [])) r' l := N;rw [eq0] at N;by_cases y : r' = q
      ·subst y; rw [Y0] at N; simp at N
      ·rw [Y1 _ _ y] at N;exact y (j.disj _ _ _ _ _ A N).1.symm
     ·grind
     ·show w'.cell? ⟨B', 0, none⟩ = _;unfold World.cell?;rw [show w'.heap[(⟨B', 0, none⟩ : Addr).block]? = _ from hw'];rfl
     ·have go : ∀ (L : List (Nat × Nat)) (us : List Value), (L.all fun c => !(c.1 == q) || c.2 == 0) = true -> PtrRels (SS env noP a.tmps vs w g bs) L us -> CapRels c ⟨upd (upd (chgE (killG q) (ovl env noP)) q .undef) q (.fptr f caps), upd (ovlT a.tmps vs) q (.pointer (some ⟨B', 0, none⟩)), w', upd g q (g q), upd (upd bs q (fun _ => [])) q (fun _ => [])⟩ (.pointer (some ⟨B', 0, none⟩)) (L.map fun c => if c.1 = q then Cap.self else Cap.path c.1 c.2) us := by
       intro L
       induction L with
       | nil => intro us _ h; exact h
       | cons p L ih =>
        intro us C ⟨u, us', e1, h5, h6⟩;rw [List.all_cons, X9] at C;refine ⟨u, us', e1, ?_, ih us' C.2 h6⟩;obtain ⟨e5, ls5, B5, i1, X, i3⟩ := h5;by_cases W : p.1 = q
        ·simp [W];have hoff : p.2 = 0 := by simpa [W] using C.1
         rw [W] at X;have X : ovlT a.tmps vs q = .pointer (some ⟨B5, 0, none⟩) := X;have g1 : ovlT a.tmps vs q = .pointer (some ⟨B', 0, none⟩) := g1;rw [g1] at X;have : B' = B5 := by simpa using X
         subst this;show u = _;rw [i3, hoff]
        ·simp [W];refine ⟨e5, chgs (killG q) ls5, B5, ?_, ?_, i3⟩
         ·show upd (upd (chgE (killG q) (ovl env noP)) q .undef) q (.fptr f caps) p.1 = _;rw [Yh, Y1 _ _ W];show (ovl env noP p.1).chg (killG q) = _;have i1 : ovl env noP p.1 = .con (.box e5) ls5 := i1;rw [i1]; rfl
         ·show upd (ovlT a.tmps vs) q _ p.1 = _;rw [Y1 _ _ W]; exact X
      exact go cs us O u2
   ·simp at G
  ·simp at G
 ·simp at G
end
theorem Y7j (q j : Nat) (n : Leaf) : Fewer (syncG q j n) := fun r b p l => by
 simp [syncG];split
 ·cases p with
  | nil => exact .inr rfl
  | cons a p => exact .inl rfl
 ·exact .inr rfl
theorem Y7k {g : Chg} (h : lf.m.own = true) : lf.chg g = lf := by
 obtain ⟨t, x, m⟩ := lf;cases m with
 | at_ lv => rfl
 | bor _ _ _ => simp [Mode.own] at h
 | dead => rfl
theorem Y9v (h : lv.deep = true) : (Mode.at_ lv).own = true := by cases lv <;> first | rfl | simp [Lvl.deep] at h
theorem RP.syncAt (hlen : env.length = tmps.size) (D : Rel c (SS env ps tmps vs w cs bs)) (hno : ∀ r, (∀ q ∈ (ovl env ps r).refs, q.1 < env.length) /\ (∀ q ∈ (ovl env ps r).ptrs, q < env.length)) {m : Nat} (hs : ∀ r, r ≠ m -> Settled (ps r)) (hm : env.length <= m) {q j : Nat} {x y : t.D} (hl : (get env q).leaf? j = some ⟨t, x, .at_ lv⟩) (hlv : lv.deep = true) (hu : (cs q)[j]? = some u) {bd : List Nat} (hbel : Below c.base w w') (hheap : ∀ b, b < w.heap.size -> b ∉ bs q (j + 1) -> (∀ l, b ∉ bs m l) -> w'.heap[b]? = w.heap[b]?)
   (hbd1 : ∀ b ∈ bd, b < w'.heap.size /\ (w.heap.size <= b \/ b ∈ bs q (j + 1) \/ ∃ l, b ∈ bs m l)) (hbd2 : bd.Nodup) (hrep : Rep (fun _ => False) w' t .dp [u] y bd) :
  ∃ bs', Rel c (SS (syncPlace q j ⟨t, y, .at_ lv⟩ env) (upd ps m .undef) tmps vs w' cs bs') /\ (∀ r, (∀ q' ∈ (ovl (syncPlace q j ⟨t, y, .at_ lv⟩ env) (upd ps m .undef) r).refs, q'.1 < (syncPlace q j ⟨t, y, .at_ lv⟩ env).length) /\ (∀ q' ∈ (ovl (syncPlace q j ⟨t, y, .at_ lv⟩ env) (upd ps m .undef) r).ptrs, q' < (syncPlace q j ⟨t, y, .at_ lv⟩ env).length)) /\ bs' q (j + 1) = bd := by
 have hql : q < env.length := Y1g hl;have W : q ≠ m := X1c (X1e hql hm);obtain ⟨k, I, hv0⟩ : ∃ k ls, get env q = .con k ls := by
  cases hv : get env q with
  | con k ls => exact ⟨k, ls, rfl⟩
  | _ => rw [hv] at hl; simp [AV.leaf?] at hl
 have hl0 : leafAt I j = some ⟨t, x, .at_ lv⟩ := by rw [hv0] at hl; exact hl
 have hjl : j < I.length := by rw [Y2] at hl0; exact (X5.1 hl0).1
 have e1 : (SS env ps tmps vs w cs bs).env q = .con k I := by show ovl env ps q = _; rw [Y7 hql, hv0]
 have e2 : (SS env ps tmps vs w cs bs).tm q = tmps.getD q undef := X4 om;have hav := D.av q;rw [e1, e2] at hav;obtain ⟨g1, g2, g3, g4⟩ := hav;have g2 : I.length = (cs q).length := g2;have g3 : ∀ l, I.length <= l -> bs q (l + 1) = [] := g3;have g4 : ∀ l lf u, leafAt I l = some lf -> (cs q)[l]? = some u -> LeafRel c (SS env ps tmps vs w cs bs) q l u lf := g4
 let nl : Leaf := ⟨t, y, .at_ lv⟩
 let g : Chg := syncG q j nl
 let X : Nat -> List Nat := fun l => if l = j + 1 then bd else bs q l
 let s : St := SS env ps tmps vs w cs bs
 let s' : St := ⟨upd (upd (chgE g (ovl env ps)) m .undef) q (.con k (setAt (chgs g I) j nl)), ovlT tmps vs, w', cs, upd (upd bs m (fun _ => [])) q X⟩
 have V : s'.bs q = X := Y0 _ _ _;have Y : s'.env q = .con k (setAt (chgs g I) j nl) := Y0 _ _ _;have ebm : s'.bs m = fun _ => [] := by show upd _ _ _ m = _; rw [Y1 _ _ (Ne.symm W), Y0]
 have eem : s'.env m = .undef := by show upd _ _ _ m = _; rw [Y1 _ _ (Ne.symm W), Y0]
 have hbqj : s'.bs q (j + 1) = bd := by rw [V]; exact X4 rfl
 have U : ∀ p, ¬ (p = q \/ p = m) -> s'.env p = (s.env p).chg g /\ s'.tm p = s.tm p /\ s'.cs p = s.cs p /\ s'.bs p = s.bs p := fun p hp => by
  simp only [X2h] at hp;refine ⟨?_, rfl, rfl, ?_⟩
  ·show upd _ _ _ p = _; rw [Y1 _ _ hp.1, Y1 _ _ hp.2]; rfl
  ·show upd _ _ _ p = _; rw [Y1 _ _ hp.1, Y1 _ _ hp.2]
 have hne : ∀ (p l b : Nat), p ≠ m -> ¬ (p = q /\ l = j + 1) -> b ∈ bs p l -> w'.heap[b]? = w.heap[b]? := fun p l b C hp F =>
  hheap b (D.own _ _ _ F).2 (fun E => hp (D.disj _ _ _ _ _ F E)) (fun l' E => C (D.disj _ _ _ _ _ F E).1)
 have hstay : ∀ p i, ¬ (p = q /\ i = j) -> p ≠ m -> SamePl s s' p i := by
  intro p i M C;have hh : ∀ b ∈ bs p (i + 1), w'.heap[b]? = w.heap[b]? := fun b F => hne p (i + 1) b C (fun h => M ⟨h.1, om⟩) F;by_cases A : p = q
  ·subst A;have hij : i ≠ j := fun h => M ⟨rfl, h⟩;refine ⟨fun lf u' ⟨o1, o2, o3⟩ => ⟨?_, o2, o3⟩, ?_, hh⟩
   ·rw [Y];have o1 : (s.env p).leaf? i = some lf := o1;rw [show s.env p = _ from e1] at o1;simp only [AV.leaf?] at o1 ⊢;rw [Y2, Y9, Xy (Ne.symm hij), <- Y2, Yf, o1, X1w, Y7k o2]
   ·rw [V];exact X2 om
  ·have Z := U p (by simp only [X2h]; exact ⟨A, C⟩);exact ⟨fun lf u' ho => ho.chg Z.1 Z.2.2.1, Z.2.2.2 ▸ rfl, hh⟩
 have hownq : OwnPlace s' q j nl u := ⟨by rw [Y]; simp only [AV.leaf?]; rw [Y2, Y9, X1i (by rw [Yu]; exact hjl)], Y9v hlv, hu⟩;have hptr : ∀ p, p ≠ m -> SamePtr s s' p := by
  intro p C;by_cases A : p = q
  ·subst A;refine ⟨rfl, fun e ls he => ?_⟩;rw [show s.env p = _ from e1] at he;simp only [AV.con.injEq] at he;rw [he.1] at Y;exact ⟨e, _, Y⟩
  ·have Z := U p (by simp only [X2h]; exact ⟨A, C⟩);exact SamePtr.chg Z.1 Z.2.1
 have hLr : ∀ p, (∀ z ∈ (s.env p).refs, z.1 ≠ m) /\ (∀ z ∈ (s.env p).ptrs, z ≠ m) := fun p =>
  ⟨fun z hz => by have := (hno p).1 z hz; omega, fun z hz => by have := (hno p).2 z hz; omega⟩
 have hgL : Keeps c s s' -> ChgLeaf c s s' g (fun p _ => p ≠ m) := by
  intro hk u' t' x' p i pa C hbor;show (Leaf.m (if p = q /\ i = j then _ else _)).own = false /\ Held c s' u' (if p = q /\ i = j then _ else _);by_cases M : p = q /\ i = j
  ·obtain ⟨rfl, rfl⟩ := M;rw [X4 ⟨rfl, rfl⟩];cases pa with
   | nil =>
    refine ⟨rfl, ?_⟩;obtain ⟨_, ⟨lf', u2, ⟨o1, o2, o3⟩, h5⟩, _⟩ := hbor;obtain ⟨mm, _, rfl⟩ := h5 rfl;have hu2 : u2 = u := by
     have o3 : (cs p)[i]? = some u2 := o3;rw [hu] at o3;exact (Xq o3).symm
    subst hu2;refine ⟨?_, ⟨nl, u2, hownq, fun _ => ⟨_, rfl, rfl⟩⟩, fun _ _ hp => by simp at hp⟩;have hro := Rep.ro hrep;refine Rep.move (fun b F _ => ⟨?_, rfl⟩) sm hro;rcases F with F | F
    ·exact absurd F id
    ·exact .inr (by rw [hbqj]; exact F)
   | cons z pa =>
    exact ⟨rfl, Rep.one hbor.1 u' sm⟩
  ·rw [X2 M];exact ⟨rfl, hbor.keep hk (hstay p i M C)⟩
 have hgW : Keeps c s s' -> ChgWr c s s' g (fun p _ => p ≠ m) := by
  intro hk a p i pa ii oo C hw;by_cases M : p = q /\ i = j
  ·rw [X4 (show g.wf p i = true by simp [g, syncG, M])];exact .inl rfl
  ·rw [X2 (show ¬ g.wf p i = true by simpa [g, syncG] using M)];have := Y13 (L := fun p i => ¬ (p = q /\ i = j) /\ p ≠ m) hk (fun p i hL => hstay p i hL.1 hL.2) a p i pa ii oo ⟨M, C⟩ hw;simpa [noG] using this
 have hmain : Rel c s' := by
  refine Rel.step (s' := s') g D (fun p => p = q \/ p = m) (fun p _ => p ≠ m) (fun p => p ≠ m) U hbel
   (fun b F hD => hheap b F (hD q (j + 1) (.inl rfl)) (fun l => hD m l (.inr rfl))) (fun p l b hD F => ?_) (fun p1 l1 p2 l2 b hD hD' N E => ?_) (fun p l hD => ?_) (fun p _ => hLr p) (fun hkp => ⟨hgL hkp, hgW hkp, fun p hL _ => hptr p hL⟩) (fun hkp p hD => ?_)
  ·by_cases A : p = q
   ·subst A;rw [V] at F;by_cases G : l = j + 1
    ·rw [show X l = bd from X4 G] at F;obtain ⟨k1, k2⟩ := hbd1 b F;refine ⟨k1, ?_⟩;rcases k2 with k2 | k2 | ⟨l', k2⟩
     ·exact .inl k2
     ·exact .inr ⟨p, _, .inl rfl, k2⟩
     ·exact .inr ⟨m, _, .inr rfl, k2⟩
    ·rw [show X l = bs p l from X2 G] at F;exact ⟨X1e (D.own _ _ _ F).2 hbel.size, .inr ⟨p, _, .inl rfl, F⟩⟩
   ·have e := hD.resolve_left A;subst e;rw [ebm] at F; simp at F
  ·by_cases hp1 : p1 = q
   ·by_cases hp2 : p2 = q
    ·subst hp1; subst hp2;rw [V] at N E;refine ⟨rfl, ?_⟩;have key : ∀ l, l ≠ j + 1 -> b ∈ bs p2 l -> b ∈ bd -> False := by
      intro l G h1 h2;rcases (hbd1 b h2).2 with k2 | k2 | ⟨l', k2⟩
      ·have : b < w.heap.size := (D.own _ _ _ h1).2;omega
      ·exact G (D.disj _ _ _ _ _ h1 k2).2
      ·exact W (D.disj _ _ _ _ _ h1 k2).1
     by_cases h1 : l1 = j + 1 <;> by_cases h2 : l2 = j + 1
     ·omega
     ·rw [show X l1 = bd from X4 h1] at N;rw [show X l2 = bs p2 l2 from X2 h2] at E;exact (key l2 h2 E N).elim
     ·rw [show X l2 = bd from X4 h2] at E;rw [show X l1 = bs p2 l1 from X2 h1] at N;exact (key l1 h1 N E).elim
     ·rw [show X l1 = bs p2 l1 from X2 h1] at N;rw [show X l2 = bs p2 l2 from X2 h2] at E;exact (D.disj _ _ _ _ _ N E).2
    ·have e := hD'.resolve_left hp2;subst e;rw [ebm] at E; simp at E
   ·have e := hD.resolve_left hp1;subst e;rw [ebm] at N; simp at N
  ·by_cases A : p = q
   ·subst A;rw [V];by_cases G : l = j + 1
    ·rw [show X l = bd from X4 G]; exact hbd2
    ·rw [show X l = bs p l from X2 G]; exact D.nodup _ _
   ·have e := hD.resolve_left A;subst e;rw [ebm]; exact X13
  ·by_cases A : p = q
   ·subst A;rw [Y];have etm : s'.tm p = tmps.getD p undef := e2;rw [etm];have eb0 : s'.bs p 0 = bs p 0 := by rw [V]; exact X2 om
    refine ⟨?_, by rw [Y9, Xz, Yu]; exact g2, fun l O => ?_, fun l lf u' O hu' => ?_⟩
    ·rw [eb0];cases k with
     | val => exact g1
     | agg => exact g1
     | tup sh => exact g1
     | tupB i n sh =>
      obtain ⟨B, vs0, c0, c1, k1, k2, k3, k4, k5, k6⟩ := g1;have k5 : bs p 0 = [B] := k5;exact ⟨B, vs0, c0, c1, k1, k2, k3, (hne p 0 B W (fun h => om) (by rw [k5]; simp)).trans k4, k5, k6⟩
     | box e =>
      obtain ⟨B, k1, k2, k3, k9⟩ := g1;have k3 : bs p 0 = [B] := k3;exact ⟨B, k1, (hne p 0 B W (fun h => om) (by rw [k3]; simp)).trans k2, k3, k9⟩
    ·rw [Y9, Xz, Yu] at O;rw [V];rw [show X (l + 1) = bs p (l + 1) from X2 om];exact g3 l O
    ·have hu' : (cs p)[l]? = some u' := hu';rw [Y2, Y9] at O;by_cases G : l = j
     ·subst G;rw [X1i (by rw [Yu]; exact hjl)] at O;simp only [X0] at O;subst O;have : u' = u := by rw [hu] at hu'; exact (Xq hu').symm
      subst this;refine LeafRel.of_rep (g4 l _ u' hl0 hu).pin ?_;rw [hbqj];exact (Rep.deep hlv).2 (Rep.dpS hrep)
     ·rw [Xy (fun h => G h.symm), <- Y2, Yf] at O;obtain ⟨lf0, hlf0, rfl⟩ := Xv.1 O;refine (g4 l lf0 u' hlf0 hu').chg hkp (hgL hkp) (fun z hz => (hLr p).1 z (by
       rw [show s.env p = _ from e1];simp only [AV.refs, Xi];exact ⟨lf0, Yc hlf0, hz⟩)) (by rw [V]; exact X2 om) (fun b F => hne p (l + 1) b W (fun h => G om) F)
   ·have e := hD.resolve_left A;subst e;rw [eem];intro l;rw [ebm]
 have elen : (syncPlace q j nl env).length = env.length := by unfold syncPlace; rw [Y5, Y8]
 have eget : get (chgEnv g env) q = .con k (chgs g I) := by rw [Y12, hv0]; rfl
 have eE : s'.env = ovl (syncPlace q j nl env) (upd ps m .undef) := by
  rw [Yb (by rw [elen]; exact hm)];unfold syncPlace;rw [Yt (by rw [Y8]; exact hql), eget];funext p;show upd (upd _ _ _) q _ p = upd (upd _ _ _) m _ p;simp only [upd];by_cases A : p = q
  ·subst A; rw [X4 rfl, X2 W, X4 rfl]; rfl
  ·rw [X2 A, X2 A];by_cases C : p = m
   ·rw [X4 C, X4 C]
   ·rw [X2 C, X2 C];have h1 := congrFun (Y1s g env (upd ps m .undef) (fun r => by
     by_cases hr : r = m
     ·subst hr; rw [Y0]; exact .inl rfl
     ·rw [Y1 _ _ hr]; exact hs r hr)) p
    have h2 : ovl env (upd ps m .undef) p = ovl env ps p := by rw [Yb hm]; exact Y1 _ _ C
    have h3 : ovl (chgEnv g env) (upd ps m .undef) p = ovl (chgEnv g env) ps p := by rw [Yb (by rw [Y8]; exact hm)]; exact Y1 _ _ C
    rw [<- h3, <- h1, show chgE g (ovl env (upd ps m .undef)) p = (ovl env (upd ps m .undef) p).chg g from rfl, h2];rfl
 refine ⟨s'.bs, Rel.congr hmain eE rfl, fun p => ?_, hbqj⟩;rw [<- eE, elen];by_cases A : p = q
 ·subst A;rw [Y];have h1 := Yi (Y7j p j nl) (.con k I);have h2 : ∀ z ∈ (AV.con k (chgs g I)).refs, z.1 < env.length := fun z hz => (hno p).1 z (by rw [show ovl env ps p = _ from e1]; exact h1.1 z hz);exact ⟨fun z hz => h2 z (Y3t (l := nl) rfl z hz), by simp [AV.ptrs]⟩
 ·by_cases C : p = m
  ·subst C; rw [eem]; exact ⟨by simp [AV.refs], by simp [AV.ptrs]⟩
  ·rw [(U p (by simp only [X2h]; exact ⟨A, C⟩)).1];have := Yi (Y7j q j nl) (ovl env ps p);exact ⟨fun z hz => (hno p).1 z (this.1 z hz), fun z hz => (hno p).2 z (this.2 z hz)⟩
theorem RP.sync (h : RP c env tmps w ps vs) {m : Nat} (X : ∀ r, r ≠ m -> Settled (ps r)) (W : env.length <= m) {q j : Nat} {x y : t.D} (A : (get env q).leaf? j = some ⟨t, x, .at_ lv⟩) (M : lv.deep = true)
  (Z : ∀ cs bs, Rel c (SS env ps tmps vs w cs bs) -> ∀ u, (cs q)[j]? = some u -> Below c.base w w' /\ (∀ b, b < w.heap.size -> b ∉ bs q (j + 1) -> (∀ l, b ∉ bs m l) -> w'.heap[b]? = w.heap[b]?) /\
   ∃ L : List Nat, (∀ b ∈ L, b < w'.heap.size /\ (w.heap.size <= b \/ b ∈ bs q (j + 1) \/ ∃ l, b ∈ bs m l)) /\ L.Nodup /\ Rep (fun _ => False) w' t .dp [u] y L) :
  RP c (syncPlace q j ⟨t, y, .at_ lv⟩ env) tmps w' (upd ps m .undef) vs := by
 obtain ⟨p, cs, bs, g, N⟩ := h;obtain ⟨k, i, I⟩ : ∃ k ls, get env q = .con k ls := by
  cases Y : get env q with
  | con k ls => exact ⟨k, ls, rfl⟩
  | _ => rw [Y] at A; simp [AV.leaf?] at A
 have F : leafAt i j = some ⟨t, x, .at_ lv⟩ := by rw [I] at A; exact A
 have V : j < i.length := by rw [Y2] at F; exact (X5.1 F).1
 have U := g.av q;have e1 : (SS env ps tmps vs w cs bs).env q = .con k i := by show ovl env ps q = _; rw [Y7 (Y1g A), I]
 have B : AVRel c (SS env ps tmps vs w cs bs) q (.con k i) ((SS env ps tmps vs w cs bs).tm q) :=gr;have g2 : i.length = (cs q).length := B.2.1;obtain ⟨u, O⟩ : ∃ u, (cs q)[j]? = some u := ⟨_, X1 om⟩;obtain ⟨E, z, L, C, D, G⟩ := Z cs bs g u O;obtain ⟨bs', k1, k2, _⟩ := RP.syncAt p g N X W A M O E z C D G;exact ⟨by unfold syncPlace; rw [Y5, Y8]; exact p, cs, bs', k1, k2⟩
theorem Y4r {l : Leaf} {B : List Nat} (g : Rep S w l.t .dp [v] l.x B) : ∀ (t : Ty) {c : List Value} {x y : t.D} {b : List Nat} {n : Nat}, Rep S w t .dp c x b -> updLeafD t x n l = some y -> n < c.length /\ ∃ p q r, b = p ++ q ++ r /\ Rep S w t .dp (c.set n v) y (p ++ B ++ r)
 | .unit, c, x, y, b, n, h, hu => by simp [updLeafD] at hu
 | .int k, c, x, y, b, n, h, hu => by
  simp only [updLeafD] at hu;split at hu
  ·rename_i i;subst i;rw [Leaf.as_eq hu] at g;have j := h.1;have m := h.2;subst j; subst m;exact ⟨sm, [], [], [], rfl, by simpa using g⟩
  ·simp at hu
 | .bool, c, x, y, b, n, h, hu => by
  simp only [updLeafD] at hu;split at hu
  ·rename_i i;subst i;rw [Leaf.as_eq hu] at g;have j := h.1;have m := h.2;subst j; subst m;exact ⟨sm, [], [], [], rfl, by simpa using g⟩
  ·simp at hu
 | .str, c, x, y, b, n, h, hu => by
  simp only [updLeafD] at hu;split at hu
  ·rename_i i;subst i;rw [Leaf.as_eq hu] at g;have j := h.1;have m := h.2;subst j; subst m;exact ⟨sm, [], [], [], rfl, by simpa using g⟩
  ·simp at hu
 | .slice e t, c, x, y, b, n, h, hu => by
  simp only [updLeafD] at hu;split at hu
  ·rename_i i;subst i;rw [Leaf.as_eq hu] at g;obtain ⟨L, xs, I, C, j, _⟩ := h;subst j;exact ⟨sm, [], b, [], sm, by simpa using g⟩
  ·simp at hu
 | .pair a b', c, x, y, b, n, ⟨c1, c2, C, b2, e1, e2, h1, h2⟩, hu => by
  have D := h1.len;simp [updLeafD] at hu;split at hu
  ·rename_i i;cases z : updLeafD a x.1 n l with
   | none => grind
   | some G =>
    rw [z] at hu;simp at hu;subst hu;obtain ⟨F, p, q, r, E, k2⟩ := Y4r g a h1 z;subst e1;exact ⟨by rw [Xl]; omega, p, q, r ++ b2, by rw [e2, E]; simp, c1.set n v, c2, p ++ B ++ r, b2, by rw [List.set_append_left _ _ F], gr⟩
  ·rename_i i;cases A : updLeafD b' x.2 (n - a.sz) l with
   | none => grind
   | some G =>
    rw [A] at hu;simp at hu;subst hu;obtain ⟨F, p, q, r, E, k2⟩ := Y4r g b' h2 A;subst e1;exact ⟨by rw [Xl]; omega, C ++ p, q, r, by rw [e2, E]; simp, c1, c2.set (n - a.sz) v, C, p ++ B ++ r, by rw [X22 _ _ om, D], by simp only [X7], h1, k2⟩
theorem Yc1 {X Q Y L : List Nat} (h : (X ++ (Q ++ Y)).Nodup) (i : L.Nodup) (j : ∀ b ∈ L, ∀ g ∈ X ++ Y, b ≠ g) : (X ++ (L ++ Y)).Nodup :=gr
def setCs : List Value -> Nat -> List Value -> List Value
 | c, _, [] => c
 | c, n, u :: us => setCs (c.set n u) (n + 1) us
theorem Y71 : ∀ (us c : List Value) (n : Nat), n + us.length <= c.length -> setCs c n us = c.take n ++ us ++ c.drop (n + us.length)
 | [], c, n, h => by simp [setCs]
 | u :: us, c, n, h => by
  simp at h;rw [setCs, Y71 us _ _ gr];rw [List.take_set, List.drop_set, X4 om];simp;rw [show (c.take (n + 1)).set n u = c.take n ++ [u] by
   rw [X28 om, X22 _ _ (by simp; omega)];simp [Xn, X33 (show n <= c.length by omega)]]
  simp;rw [show n + 1 + us.length = n + (us.length + 1) by omega]
theorem Y44 : ∀ (us c : List Value) (n : Nat), (setCs c n us).length = c.length
 | [], c, n => rfl
 | u :: us, c, n => by rw [setCs, Y44 us, Xz]
theorem Y2h (t : Ty) : ∀ (ls : List Leaf) (us : List Value) (F : Nat -> List Nat) {c : List Value} {x y : t.D} {b : List Nat} {n : Nat},
  ls.length = us.length -> (∀ l lf u, ls[l]? = some lf -> us[l]? = some u -> Rep S w lf.t .dp [u] lf.x (F l)) -> Rep S w t .dp c x b -> updLeavesD t x n ls = some y ->
  (ls ≠ [] -> n + ls.length <= c.length) /\ ∃ B, Rep S w t .dp (setCs c n us) y B /\ (∀ z ∈ B, z ∈ b \/ ∃ l, l < ls.length /\ z ∈ F l) /\
   ∀ X Y, (X ++ b ++ Y).Nodup -> (∀ l, l < ls.length -> (F l).Nodup) -> (∀ l D z, l < ls.length -> D < ls.length -> z ∈ F l -> z ∈ F D -> l = D) -> (∀ l z, l < ls.length -> z ∈ F l -> z ∉ X ++ b ++ Y) -> (X ++ B ++ Y).Nodup
 | [], us, F, c, x, y, b, n, hl, hv, h, hu => by
  simp [updLeavesD] at hu;subst hu;have : us = [] := Xo.1 hl.symm;subst this;exact ⟨fun h => absurd rfl h, b, h, fun z j => .inl j, fun X Y E _ _ _ => E⟩
 | lf :: ls, us, F, c, x, y, b, n, hl, hv, h, hu => by
  cases us with
  | nil => simp at hl
  | cons u us =>
   simp [updLeavesD] at hu;cases m : updLeafD t x n lf with
   | none => grind
   | some y1 =>
    rw [m] at hu;obtain ⟨k0, p, q, r, V, k2⟩ := Y4r (hv 0 lf u rfl rfl) t h m;obtain ⟨m0, B, W, m2, Z⟩ := Y2h t ls us (fun l => F (l + 1)) (by simpa using hl) (fun l M u' m G => hv (l + 1) M u' (by simpa using m) (by simpa using G)) k2 hu;refine ⟨fun _ => ?_, B, W, fun z j => ?_, fun X Y E m G O => ?_⟩
    ·by_cases U : ls = []
     ·grind
     ·grind
    ·grind
    ·have C : ∀ z ∈ F 0, z ∉ X ++ b ++ Y := fun z j => O 0 z sm j;have I : (X ++ (p ++ F 0 ++ r) ++ Y).Nodup := by
      rw [V] at E C;have := Yc1 (X := X ++ p) (Q := q) (Y := r ++ Y) (L := F 0) (by simpa only [X7] using E) (m 0 sm) (fun z j z' g e => by
       subst e;apply C z j;simp only [X6] at g ⊢;rcases g with (g | g) | (g | g) <;> simp [g])
      simpa only [X7] using this
     refine Z X Y I (fun l i => m (l + 1) (by simpa using i)) (fun l D z i N j g => by have := G (l + 1) (D + 1) z (by simpa using i) gr j g; omega) (fun l z i j hm => ?_);have A : z ∈ X ++ b ++ Y \/ z ∈ F 0 :=gr;rcases A with A | A
     ·grind
     ·grind
theorem Ybk {V : Type} (b j g us : List V) (i : Nat) (h : i + us.length <= j.length) : b ++ (j.take i ++ us ++ j.drop (i + us.length)) ++ g = (b ++ j ++ g).take (b.length + i) ++ us ++ (b ++ j ++ g).drop (b.length + i + us.length) := by
 have l : (b ++ j ++ g).take (b.length + i) = b ++ j.take i := by
  rw [X7, List.take_append, X2e om, show b.length + i - b.length = i by omega, List.take_append_of_le_length om]
 have m : (b ++ j ++ g).drop (b.length + i + us.length) = j.drop (i + us.length) ++ g := by
  rw [X7, List.drop_append, X2w om, show b.length + i + us.length - b.length = i + us.length by omega, List.drop_append_of_le_length om, X2o]
 rw [l, m]; simp
theorem Y9w (C us : List Value) (off N : Nat) (h : off + us.length <= N) (g : N <= C.length) : (C.take off ++ us ++ C.drop (off + us.length)).take N = (C.take N).take off ++ us ++ (C.take N).drop (off + us.length) := by
 have b : (C.take off ++ us).length = off + us.length :=gr;rw [List.take_append, b, X2e om, List.take_take, X33 om, List.drop_take]
section
variable {P : Program} {o : Oper} {a : Act} {w : World} {R : Type} {K : Env -> Option R} {r : R} {next : Act -> World -> Prop} {Q : Exit -> Act -> World -> Prop} {c : Cx} {d : Nat} {T : Tab} {env : Env}
theorem Y91 (hT : TabOk P T) {t : TypeId} {x v : Operand} {g : Env} {q j oo : Nat} {i : Int} {le : List Leaf} {te : Ty} {xs : List te.D} {y : te.D} (hlv : lv.deep = true) (hop : o.op = .store t x v) (hdst : o.dst = none) (hr : RE c env a.tmps w) (ht : T.ty t = some τ) (hta : takeAs τ env v = some (g, ls))
  (hx : rd none g x = .eptr le (some (q, j, [], i, oo))) (hl : (get g q).leaf? j = some ⟨.slice e te, xs, .at_ lv⟩) (hlm : (!ls.isEmpty && ls.all fun l => !l.t.isAgg && (l.t.flatB || l.m == .at_ .dp)) = true) (hi0 : 0 <= i) (hi1 : i < (xs.length : Int)) (hu : updLeavesD te (xs.getD i.toNat te.dflt) oo ls = some y)
  (hK : K (syncPlace q j ⟨.slice e te, xs.set i.toNat y, .at_ lv⟩ g) = some r) (hn : Next c a K r env.length next) : o.wp P a w next Q := by
 simp only [X9, X1k, List.isEmpty_eq_false_iff] at hlm;obtain ⟨hne, hlm⟩ := hlm;obtain ⟨hti, hty⟩ := Y23 hta;have hll := Y1e hty;obtain ⟨vs, h⟩ := hr;obtain ⟨hlen1, h1⟩ := Y18 h (fun r => .inl rfl) hti (Xd _) rfl;have hset := Yy hti;have hs1 : ∀ r, Settled (upd noP env.length (.con τ.kind ls) r) := Settled.upd (fun r => .inl rfl) _ (.inr ⟨_, _, rfl, hset⟩)
 let ps := upd noP env.length (.con τ.kind ls)
 let F := upd vs env.length (evT a.tmps v)
 have hql : q < g.length := Y1g hl;have hqm : q ≠ env.length :=om
 -- what the relation says of the place and of the address
 have near : ∀ cs bs, Rel c (SS g ps a.tmps F w cs bs) -> ∃ B n cp, (cs q)[j]? = some (.slice (some ⟨B, 0, none⟩) n cp) /\ evT a.tmps x = .pointer (some ⟨B, i.toNat * te.sz + oo, none⟩) /\ Rep (RoS c (SS g ps a.tmps F w cs bs)) w (.slice e te) .dp [.slice (some ⟨B, 0, none⟩) n cp] xs (bs q (j + 1)) := by
  intro cs bs p;obtain ⟨cells, hv⟩ := Yo h1.len p none x;rw [hx] at hv;obtain ⟨ad, ea, _, _, lf, u, ⟨o1, o2, o3⟩, k⟩ := hv;obtain ⟨e', t', xs', m', B, n, cp, k1, k2, _, _, k3⟩ := k.1 rfl;have o1 : (ovl g ps q).leaf? j = some lf := o1;rw [Y7 hql, hl] at o1;simp only [X0] at o1;rw [<- o1] at k1;simp only [Leaf.mk.injEq, Ty.slice.injEq] at k1;obtain ⟨⟨rfl, rfl⟩, _, _⟩ := k1;subst k2;refine ⟨B, n, cp, o3, by rw [ea, k3], ?_⟩;have hav := p.av q;have e1 : (SS g ps a.tmps F w cs bs).env q = get g q := Y7 hql;rw [e1] at hav;obtain ⟨kk, ls0, hv0⟩ : ∃ k ls, get g q = .con k ls := by
   cases hv : get g q with
   | con k ls => exact ⟨k, ls, rfl⟩
   | _ => rw [hv] at hl; simp [AV.leaf?] at hl
  rw [hv0] at hav hl;exact (Rep.deep hlv).1 (hav.2.2.2 j _ _ hl o3).rep
 obtain ⟨cs0, bs0, X, _⟩ := h1.rel;obtain ⟨B, n, cp, c1, c2, c3⟩ := near cs0 bs0 X
 let off := i.toNat * te.sz + oo
 let us := (evT a.tmps v).cells.toList
 -- the leaves that are stored
 have Z : ∀ cs bs, Rel c (SS g ps a.tmps F w cs bs) -> ls.length = us.length /\ ∀ l lf u, ls[l]? = some lf -> us[l]? = some u -> Rep (RoS c (SS g ps a.tmps F w cs bs)) w lf.t .dp [u] lf.x (bs env.length (l + 1)) := by
  intro cs bs p;obtain ⟨m1, m2, m3, m4, m5⟩ := Y2m h1.len p (n := env.length) om (Y0 _ _ _) (Y1o τ) hset;have ev : F env.length = evT a.tmps v := Y0 _ _ _;rw [ev] at m1;refine ⟨by rw [m3, m1], fun l lf u hlf hu1 => ?_⟩;obtain ⟨lv, ⟨k1, _⟩, k2⟩ := m5 l lf u hlf (by rw [m1]; exact hu1);have hlm1 := Xa.1 hlm lf (X8 hlf);simp only [X9, X2r] at hlm1;rcases hlm1.2 with hf | hd
  ·obtain ⟨k3, k4⟩ := Rep.flat (S' := RoS c (SS g ps a.tmps F w cs bs)) (w' := w) (m' := .dp) hf k2;rw [k3]; exact k4
  ·rw [k1] at hd;simp only [beq_iff_eq, Mode.at_.injEq] at hd;subst hd;exact k2
 obtain ⟨hus, L⟩ := Z cs0 bs0 X;have hone : ∀ u ∈ us, u.oneCell' = true := fun u hu => by
  obtain ⟨l, hlu⟩ := Xx hu;have hlt : l < ls.length := by rw [hus]; exact (X5.1 hlu).1
  exact Rep.one (L l ls[l] u (X1 hlt) hlu) u sm
 have hi : i.toNat < xs.length :=om;have hget : xs.getD i.toNat te.dflt = xs[i.toNat] := by simp [hi]
 rw [hget] at hu
 -- the block
 have block : ∃ cur, w.heap[B]? = some (.cells cur e (0, 0)) /\ off + us.length <= cur.size := by
  obtain ⟨v0, cells, b0, b1, e1, e2, hel, Y⟩ := c3;obtain rfl : v0 = .slice (some ⟨B, 0, none⟩) n cp := by simpa using e1.symm
  obtain ⟨pre, ch, post, x0, x1, x2, f1, f2, f3, f4, f5, _⟩ := hel.at_ i.toNat hi;have f5 : Rep _ w te .dp ch _ x1 := f5;obtain ⟨k0, _⟩ := Y2h te ls us (fun l => bs0 env.length (l + 1)) hus L f5 hu;rcases Y.2.2 with ⟨E, _⟩ | ⟨g', C, cur, E, _, hg, hnc, _, M, N⟩
  ·simp at E
  ·simp only [Value.slice.injEq, X0, X2x, and_true] at E;obtain ⟨rfl, rfl, rfl⟩ := E;refine ⟨cur, hg, ?_⟩;have W : cells.length <= cur.size := by
    have : cells.length <= cur.toList.length := by rw [<- N, Xn]; exact Nat.min_le_right _ _
    simpa using this
   rw [f1] at W;simp only [Xl] at W;have := k0 hne;simp only [off]; omega
 obtain ⟨cur, hgB, hfit⟩ := block
 let G : Array Value := (cur.toList.take off ++ us ++ cur.toList.drop (off + us.length)).toArray
 let w' := w.setRow B G
 have I : ∀ b, b ≠ B -> w'.heap[b]? = w.heap[b]? := fun b A => setRow_other w B b _ A;have hsame : w'.heap[B]? = some (.cells G e (0, 0)) := setRow_heap w B _ _ e (0, 0) hgB;have h2 := h1.sync (m := env.length) (fun r _ => hs1 r) om hl hlv (w' := w') (y := xs.set i.toNat y) (fun cs bs p uu O => by
  obtain ⟨B', n', U, k1, k2, k3⟩ := near cs bs p;rw [c2] at k2;have hB : B = B' := by simpa using k2
  subst hB;obtain ⟨_, hru⟩ := Z cs bs p;have O : uu = .slice (some ⟨B, 0, none⟩) n' U := by
   have O : (cs q)[j]? = some uu := O;rw [k1] at O;exact (Xq O).symm
  subst O;obtain ⟨v0, cells, b0, b1, e1, e2, hel, Y⟩ := k3;obtain rfl : v0 = .slice (some ⟨B, 0, none⟩) n' U := by simpa using e1.symm
  obtain ⟨hb0, hown1, hown⟩ := Y;obtain ⟨C, hB0, hnc, hcm, M, N⟩ : ∃ C, U = C /\ n' <= C /\ C <= maxLen /\ cur.size = C * te.sz /\ cur.toList.take (n' * te.sz) = cells := by
   rcases hown with ⟨E, _⟩ | ⟨g', C, cur2, E, _, hg, hnc, hcm, M, N⟩
   ·simp at E
   ·simp only [Value.slice.injEq, X0, X2x, and_true] at E;obtain ⟨rfl, rfl, rfl⟩ := E;rw [hgB] at hg;simp only [X0, Obj.cells.injEq, and_true] at hg;subst hg;exact ⟨_, rfl, hnc, hcm, M, N⟩
  subst hB0;have hn : n' = xs.length := by
   rcases hown with ⟨E, _⟩ | ⟨g', C, cur, E, _⟩
   ·simp at E
   ·simp only [Value.slice.injEq] at E; exact E.2.1
  subst hn;have hb0 : b0 = [B] := by rw [hb0]; rfl
  subst hb0;obtain ⟨pre, ch, post, x0, x1, x2, f1, f2, f3, f4, f5, f6⟩ := hel.at_ i.toNat hi;have f5 : Rep _ w te .dp ch _ x1 := f5;obtain ⟨k0, b', k4, k5, k6⟩ := Y2h te ls us (fun l => bs env.length (l + 1)) hus hru f5 hu;have k0 := k0 hne;have hel' := f6 (setCs ch oo us) y _ (by rw [Y44]; exact f3) k4;have hcl : cells.length = xs.length * te.sz := hel.len;have hoff : off + us.length <= cells.length := by
   rw [f1]; simp only [Xl, off]; omega
  have hcells : pre ++ setCs ch oo us ++ post = cells.take off ++ us ++ cells.drop (off + us.length) := by
   rw [Y71 _ _ _ om, f1, Ybk _ _ _ _ _ om, f2]
  rw [hcells] at hel';have V : B ∈ bs q (j + 1) := by
   have e2 : bs q (j + 1) = [B] ++ b1 := e2;rw [e2]; simp
  have D : ∀ b ∈ b1, b ∈ bs q (j + 1) := fun b A => by
   have e2 : bs q (j + 1) = [B] ++ b1 := e2;rw [e2]; exact Xf _ A
  have hnd : ([B] ++ b1).Nodup := by
   have e2 : bs q (j + 1) = [B] ++ b1 := e2;rw [<- e2]; exact p.nodup _ _
  rw [f4] at hnd D;have hdj : ∀ l, ∀ b ∈ bs env.length (l + 1), b ∉ bs q (j + 1) := fun l b A hb' => hqm (p.disj _ _ _ _ _ hb' A).1;have hmem : ∀ b ∈ x0 ++ b' ++ x2, (∃ l, b ∈ bs env.length (l + 1)) \/ b ∈ x0 ++ x1 ++ x2 := fun b A => by
   simp only [X6] at A ⊢;rcases A with (A | A) | A
   ·simp [A]
   ·rcases k5 b A with A | ⟨l, _, A⟩
    ·simp [A]
    ·exact .inl ⟨l, A⟩
   ·simp [A]
  have hndn : ([B] ++ (x0 ++ b' ++ x2)).Nodup := by
   have := k6 ([B] ++ x0) x2 (by simpa only [X7] using hnd) (fun l _ => p.nodup _ _) (fun l l' z _ _ h1 h2 => by have := (p.disj _ _ _ _ _ h1 h2).2; omega) (fun l z _ hz hm => by
    apply hdj l z hz;simp only [X6, Xb] at hm;rcases hm with ((hm | hm) | hm) | hm
    ·rw [hm]; exact V
    ·exact D z (by simp [hm])
    ·exact D z (by simp [hm])
    ·exact D z (by simp [hm]))
   simpa only [X7] using this
  have hltB : B < w.heap.size := (p.own _ _ _ V).2;have hsz : w'.heap.size = w.heap.size := setRow_size _ _ _;refine ⟨below_setRow (X1f _ _) (p.own _ _ _ V).1.1 _, fun b A hb1 _ => I b (fun e => hb1 (e ▸ V)), [B] ++ (x0 ++ b' ++ x2), fun b A => ?_, hndn, ?_⟩
  ·rw [hsz];rcases X6.1 A with A | A
   ·rw [Xb.1 A]; exact ⟨hltB, .inr (.inl V)⟩
   ·rcases hmem b A with ⟨l, A⟩ | A
    ·exact ⟨(p.own _ _ _ A).2, .inr (.inr ⟨_, A⟩)⟩
    ·exact ⟨(p.own _ _ _ (D b A)).2, .inr (.inl (D b A))⟩
  ·refine ⟨.slice (some ⟨B, 0, none⟩) xs.length U, cells.take off ++ us ++ cells.drop (off + us.length), [B], _, rfl, rfl, ?_, rfl, ?_⟩
   ·refine El.imp (fun c' x' b' hb' E => ?_) hel';refine Rep.dpS (S := fun _ => False) (Rep.move (S := fun _ => False) (fun _ hf => absurd hf id) (fun b A => I b (fun e => ?_)) (Rep.dpS E));subst e;exact (X12.1 hndn).2.2 b sm b (hb' b A) rfl
   ·rw [Xz];have hcurl : off + us.length <= cur.toList.length := by rw [X17]; exact hfit
    refine ⟨?_, .inr ⟨B, U, G, rfl, X2f _, hsame, hnc, hcm, ?_, ?_⟩⟩
    ·simp only [Xl, Xn, X16]; omega
    ·rw [<- M];simp only [G, List.size_toArray, Xl, Xn, X16, X17] at hcurl ⊢;omega
    ·rw [<- N];exact Y9w _ _ _ _ (by rw [hcl] at hoff; exact hoff) (by rw [<- hcl, <- N, Xn]; exact Nat.min_le_right _ _))
 refine Y55 hdst (w' := w') ?_ (by unfold syncPlace; rw [Y5, Y8]; exact hlen1) h2 (fun r => ?_) hK hn
 ·have hsize := TabOk.sizeOf hT ht;have M : (evT a.tmps v).cells.size = τ.sz := by rw [<- X17]; show us.length = _; rw [<- hus, hll]
  have hst := run_storeCells_at P B off e us 0 cur w hgB (by simpa using hfit) hone;rw [X2i] at hst;simp [execOp, hop, Y6, c2, Instr.storeAt, Instr.sureAddr, storeVar, hsize, M];rw [show Sem.run P (storeCells { block := B, off := i.toNat * te.sz + oo } (evT a.tmps v).cells.toList) w = .ok () w' from hst];rfl
 ·by_cases hr : r = env.length
  ·subst hr; rw [Y0]
  ·rw [Y1 _ _ hr]; show upd noP env.length _ r = _; rw [Y1 _ _ hr]; rfl
end
theorem Y8l : ∀ (n : Nat) (ls : List Leaf) (l : Nat), (spendLs n ls)[l]? = if l < n then (ls[l]?).map Leaf.spent else ls[l]?
 | n, [], l => by cases n <;> simp [spendLs]
 | 0, x :: ls, l => by simp [spendLs]
 | n + 1, x :: ls, 0 => by simp [spendLs]
 | n + 1, x :: ls, l + 1 => by simp only [spendLs, X1l, Nat.add_lt_add_iff_right]; exact Y8l n ls l
theorem Y34 : ∀ (ls : List Leaf) (off n l : Nat), (killLeaves ls off n)[l]? = if off <= l /\ l < off + n then (ls[l]?).map Leaf.spent else ls[l]?
 | ls, 0, n, l => by simp [killLeaves, Y8l]
 | [], off + 1, n, l => by simp [killLeaves]
 | x :: ls, off + 1, n, 0 => by simp [killLeaves]
 | x :: ls, off + 1, n, l + 1 => by
  simp only [killLeaves, X1l, Y34 ls off n l];by_cases h : off <= l /\ l < off + n
  ·grind
  ·grind
theorem Y8m : ∀ (n : Nat) (ls : List Leaf), (spendLs n ls).length = ls.length
 | n, [] => by cases n <;> simp [spendLs]
 | 0, x :: ls => by simp [spendLs]
 | n + 1, x :: ls => by simp [spendLs, Y8m n ls]
theorem Y35 : ∀ (ls : List Leaf) (off n : Nat), (killLeaves ls off n).length = ls.length
 | ls, 0, n => by simp [killLeaves, Y8m]
 | [], off + 1, n => by simp [killLeaves]
 | x :: ls, off + 1, n => by simp [killLeaves, Y35 ls off n]
section
variable {P : Program} {o : Oper} {a : Act} {w : World} {R : Type} {K : Env -> Option R} {r : R} {next : Act -> World -> Prop} {Q : Exit -> Act -> World -> Prop} {c : Cx} {d : Nat} {T : Tab} {env : Env}
theorem RP.grabTup (h : RP c env tmps w noP vs) {s i off n : Nat} {agg : Bool} {sh : List (Bool × Nat)} (hk : get env s = .con (.tup sh) ls) (ho : tupOff sh i = some (off, agg, n)) (q : ∀ l ∈ ls, l.m.bare = true) (hlive : ∀ l ∈ takeLs n (dropLs off ls), l.m.live = true) :
  ∃ (vl : List Value) (v : Value), evT tmps (.tmp s) = .tuple vl.toArray /\ vl[i]? = some v /\ RP c (put (killRoot s env) s (.con (.tup sh) (killLeaves ls off n))) tmps w (upd noP env.length (mkCon agg (takeLs n (dropLs off ls)))) (upd vs env.length v) := by
 let N := env.length
 have hsl : s < env.length := Yx hk;have hsN : s ≠ N := X1c hsl;obtain ⟨hlen, cs, bs, hr, hno⟩ := h
 replace hr : Rel c (SS env noP tmps vs w cs bs) := hr
 have hbs := Y87 hr (Xd env.length) rfl;obtain ⟨B, hk3⟩ := hr.killRoot_ s
 let E := chgE (killG s) (ovl env noP)
 have hchg : chgs (killG s) ls = ls := by
  rw [Y2y]
  conv => rhs; rw [<- List.map_id ls]
  refine List.map_congr_left (fun l g => ?_);have := q l g;obtain ⟨t, x, m⟩ := l;cases m with
  | bor _ _ _ => simp [Mode.bare] at this
  | _ => rfl
 have hEs : E s = .con (.tup sh) ls := by show (ovl env noP s).chg _ = _; rw [Y7 hsl, hk]; show AV.con _ (chgs _ _) = _; rw [hchg]
 have hEN : E N = .undef := by show (ovl env noP N).chg _ = _; rw [Yg (Xd _)]; rfl
 have hav := B.av s;have e2 : ovlT tmps vs s = tmps.getD s undef := X4 (hlen ▸ hsl);simp only [show chgE (killG s) (ovl env noP) s = _ from hEs, e2] at hav;obtain ⟨⟨g0, vl, g1, gt⟩, g2, g3, g4⟩ := hav;have g0 : bs s 0 = [] := g0;have g2 : ls.length = (cs s).length := g2;have g3 : ∀ l, ls.length <= l -> bs s (l + 1) = [] := g3;have g4 : ∀ l lf u, leafAt ls l = some lf -> (cs s)[l]? = some u -> LeafRel c ⟨E, ovlT tmps vs, w, cs, bs⟩ s l u lf := g4;obtain ⟨v, f1, f2, f3, f4⟩ := Y7c gt ho;refine ⟨vl, v, g1, f1, ?_⟩
 let sub := takeLs n (dropLs off ls)
 let cn := ((cs s).drop off).take n
 have hsub : ∀ l, sub[l]? = if l < n then ls[off + l]? else none := fun l => by
  show (takeLs n (dropLs off ls))[l]? = _;rw [Yq, Yr, X1m];split
  ·grind
  ·rfl
 have hcn : ∀ l, cn[l]? = if l < n then (cs s)[off + l]? else none := fun l => gr
 have hsl2 : sub.length = n := by show (takeLs n (dropLs off ls)).length = n; rw [Yq, Yr, Xn, X16]; omega
 have hcl2 : cn.length = n :=gr
 let X : Nat -> List Nat := fun l => if off < l /\ l <= off + n then [] else bs s l
 let bsN : Nat -> List Nat := fun l => if 0 < l /\ l <= n then bs s (off + l) else []
 let s' : St := ⟨upd (upd E s (.con (.tup sh) (killLeaves ls off n))) N (mkCon agg sub), upd (ovlT tmps vs) N v, w, upd cs N cn, upd (upd bs s X) N bsN⟩
 have D : s'.bs s = X := by show upd _ _ _ s = _; rw [Y1 _ _ hsN, Y0]
 have M : s'.bs N = bsN := Y0 _ _ _;have eeS : s'.env s = .con (.tup sh) (killLeaves ls off n) := by show upd _ _ _ s = _; rw [Y1 _ _ hsN, Y0]
 have eeN : s'.env N = mkCon agg sub := Y0 _ _ _;have ecS : s'.cs s = cs s := Y1 _ _ hsN;have ecN : s'.cs N = cn := Y0 _ _ _;have F : ∀ p, ¬ (p = s \/ p = N) -> s'.env p = (E p).chg noG /\ s'.tm p = ovlT tmps vs p /\ s'.cs p = cs p /\ s'.bs p = bs p := fun p C => by
  simp at C;refine ⟨by rw [AV.chg_no]; show upd _ _ _ p = _; rw [Y1 _ _ C.2, Y1 _ _ C.1], Y1 _ _ C.2, Y1 _ _ C.2, ?_⟩;show upd _ _ _ p = _;rw [Y1 _ _ C.2, Y1 _ _ C.1]
 have hLr : ∀ p, (∀ z ∈ (E p).refs, z.1 ≠ s /\ z.1 ≠ N) /\ (∀ z ∈ (E p).ptrs, z ≠ s /\ z ≠ N) := fun p =>
  ⟨fun z O => ⟨(hk3 p).1 z O, by have h1 := (hno p).1 z ((Yi (Y14 s) (ovl env noP p)).1 z O); omega⟩,
   fun z O => ⟨(hk3 p).2 z O, by have h1 := (hno p).2 z ((Yi (Y14 s) (ovl env noP p)).2 z O); omega⟩⟩
 have hstay : ∀ p j, p ≠ s /\ p ≠ N -> SamePl ⟨E, ovlT tmps vs, w, cs, bs⟩ s' p j := fun p j C => by
  have V := F p (by simp; exact C);exact ⟨fun lf u ho => ho.chg V.1 V.2.2.1, by rw [V.2.2.2], fun _ _ => rfl⟩
 have hptr : ∀ p, p ≠ s /\ p ≠ N -> SamePtr ⟨E, ovlT tmps vs, w, cs, bs⟩ s' p := fun p C => by
  have V := F p (by simp; exact C);exact SamePtr.chg V.1 V.2.1
 have hbS : ∀ l b, b ∈ X l -> b ∈ bs s l /\ ¬ (off < l /\ l <= off + n) := fun l b L => gr;have hbN : ∀ l b, b ∈ bsN l -> b ∈ bs s (off + l) /\ 0 < l /\ l <= n := fun l b L => gr;have hmain : Rel c s' := by
  refine Rel.step (s' := s') noG B (fun p => p = s \/ p = N) (fun p _ => p ≠ s /\ p ≠ N) (fun p => p ≠ s /\ p ≠ N) F (X1f _ _) (fun _ _ _ => rfl)
   (fun p l b hD L => ?_) (fun p1 l1 p2 l2 b hD hD' G I => ?_) (fun p l hD => ?_) (fun p _ => hLr p) (fun U => ⟨Yl U (fun p j hL => hstay p j hL), Y13 U (fun p j hL => hstay p j hL), fun p hL _ => hptr p hL⟩) (fun U p hD => ?_)
  ·by_cases C : p = s
   ·subst C;rw [D] at L;have := (hbS l b L).1;exact ⟨(B.own _ _ _ this).2, .inr ⟨p, l, .inl rfl, this⟩⟩
   ·have e := hD.resolve_left C;subst e;rw [M] at L;have := (hbN l b L).1;exact ⟨(B.own _ _ _ this).2, .inr ⟨s, _, .inl rfl, this⟩⟩
  ·by_cases h1 : p1 = s <;> by_cases h2 : p2 = s
   ·subst h1; subst h2;rw [D] at G I;exact ⟨rfl, (B.disj _ _ _ _ _ (hbS l1 b G).1 (hbS l2 b I).1).2⟩
   ·subst h1;have e := hD'.resolve_left h2;subst e;rw [D] at G;rw [M] at I;obtain ⟨k1, k2⟩ := hbS l1 b G;obtain ⟨k3, k4⟩ := hbN l2 b I;have := (B.disj _ _ _ _ _ k1 k3).2;omega
   ·subst h2;have e := hD.resolve_left h1;subst e;rw [D] at I;rw [M] at G;obtain ⟨k1, k2⟩ := hbS l2 b I;obtain ⟨k3, k4⟩ := hbN l1 b G;have := (B.disj _ _ _ _ _ k1 k3).2;omega
   ·have e1 := hD.resolve_left h1;have e2 := hD'.resolve_left h2;subst e1; subst e2;rw [M] at G I;have := (B.disj _ _ _ _ _ (hbN l1 b G).1 (hbN l2 b I).1).2;exact ⟨rfl, om⟩
  ·by_cases C : p = s
   ·subst C;rw [D];simp [X];split
    ·grind
    ·exact B.nodup _ _
   ·have e := hD.resolve_left C;subst e;rw [M];simp [bsN];split
    ·exact B.nodup _ _
    ·simp_all
  ·by_cases C : p = s
   ·subst C;rw [eeS];have etm : s'.tm p = tmps.getD p undef := by show upd _ _ _ p = _; rw [Y1 _ _ hsN]; exact e2
    rw [etm];refine ⟨⟨by rw [D]; show (if off < 0 /\ _ then [] else bs p 0) = []; rw [X2 om]; exact g0, vl, g1, by rw [ecS]; exact gt⟩, by rw [Y35, ecS]; exact g2, fun l g => ?_, fun l lf u g hu => ?_⟩
    ·rw [Y35] at g;rw [D];simp only [X];split
     ·rfl
     ·exact g3 l g
    ·rw [ecS] at hu;rw [Y2, Y34] at g;by_cases hin : off <= l /\ l < off + n
     ·rw [X4 hin] at g;obtain ⟨W, hl0, rfl⟩ := Xv.1 g;have Z := g4 l W u (by rw [Y2]; exact hl0) hu;have A : s'.bs p (l + 1) = [] := by rw [D]; exact X4 om
      have y := q W (X8 hl0);obtain ⟨t, x, m⟩ := W;cases m with
      | bor _ _ _ => simp [Mode.bare] at y
      | dead => exact ⟨A, Z.2⟩
      | at_ lv =>
       have hrep := Z.rep;cases lv with
       | ro => exact LeafRel.of_held rfl A (Rep.roS Z.2 (fun b L g => (U b L g).1) sm)
       | sh => exact ⟨A, Rep.one hrep u sm⟩
       | dp => exact ⟨A, Rep.one hrep u sm⟩
       | pn _ => exact ⟨A, Rep.one hrep u sm⟩
     ·rw [X2 hin] at g;have Z := g4 l lf u (by rw [Y2]; exact g) hu;have A : s'.bs p (l + 1) = bs p (l + 1) := by rw [D]; exact X2 om
      have y := q lf (X8 g);obtain ⟨t, x, m⟩ := lf;cases m with
      | bor _ _ _ => simp [Mode.bare] at y
      | dead => exact ⟨A.trans Z.1, Z.2⟩
      | at_ lv =>
       refine LeafRel.of_rep Z.pin ?_;rw [A];exact Rep.move (fun b L g => U b L g) (fun _ _ => rfl) Z.rep
   ·have e := hD.resolve_left C;subst e;rw [eeN];have etm : s'.tm N = v := Y0 _ _ _;rw [etm];have hkc : KCells c w [] (if agg then .agg else .val) (mkV agg cn) cn := Y2b (fun h => gr);refine ⟨?_, by rw [ecN, hcl2]; exact hsl2, fun l g => ?_, fun l lf u g hu => ?_⟩
    ·grind
    ·rw [M];have g : sub.length <= l := g;exact X2 om
    ·rw [ecN, hcn] at hu;rw [Y2, hsub] at g;split at g
     ·rename_i hln;rw [X4 hln] at hu;have Z := g4 _ lf u (by rw [Y2]; exact g) hu;have y := q lf (X8 g);have hlive0 := hlive lf (X8 (i := l) gr);obtain ⟨t, x, m⟩ := lf;cases m with
      | bor _ _ _ => simp [Mode.bare] at y
      | dead => simp [Mode.live] at hlive0
      | at_ lv =>
       refine LeafRel.of_rep Z.pin ?_;have A : s'.bs N (l + 1) = bs s (off + l + 1) := by rw [M]; exact X4 om
       rw [A];exact Rep.move (fun b L g => U b L g) (fun _ _ => rfl) Z.rep
     ·simp at g
 have Y : (put (killRoot s env) s (.con (.tup sh) (killLeaves ls off n))).length = env.length := by rw [Y5, Ya]
 have eE : s'.env = ovl (put (killRoot s env) s (.con (.tup sh) (killLeaves ls off n))) (upd noP env.length (mkCon agg sub)) := by
  rw [Yb (by rw [Y]; exact Xd _), Yt (by rw [Ya]; exact hsl)];unfold killRoot;rw [Yt (by rw [Y8]; exact hsl), <- Y1s _ _ noP (fun _ => .inl rfl), Yh]
 refine ⟨by rw [Y]; exact hlen, _, _, Rel.congr hmain eE (Yv om v).symm, fun p => ?_⟩;rw [<- eE, Y];by_cases hpN : p = N
 ·subst hpN;rw [eeN];have : ∀ l ∈ sub, l.m.settled = true := fun l g => by
   have h1 := hlive l g;have h2 := q l (by
    have : l ∈ takeLs n (dropLs off ls) := g;rw [Yq, Yr] at this;exact X26 (X27 this))
   obtain ⟨t, x, m⟩ := l;cases m with
   | at_ _ => rfl
   | bor _ _ _ => simp [Mode.bare] at h2
   | dead => simp [Mode.live] at h1
  unfold mkCon;rw [(Yd this).1, (Yd this).2];exact ⟨sm, sm⟩
 ·by_cases hps : p = s
  ·subst hps;rw [eeS];refine ⟨fun z O => ?_, by simp [AV.ptrs]⟩;simp only [AV.refs, Xi] at O;obtain ⟨lf, hlf, O⟩ := O;obtain ⟨l, g⟩ := Xx hlf;rw [Y34] at g;have : lf.refs = [] := by
    split at g
    ·obtain ⟨W, hl0, rfl⟩ := Xv.1 g;have L := q W (X8 hl0);obtain ⟨t, x, m⟩ := W;cases m with
     | at_ lv => cases lv <;> rfl
     | bor _ _ _ => simp [Mode.bare] at L
     | dead => rfl
    ·have L := q lf (X8 g);obtain ⟨t, x, m⟩ := lf;cases m with
     | at_ lv => rfl
     | bor _ _ _ => simp [Mode.bare] at L
     | dead => rfl
   rw [this] at O;simp at O
  ·rw [(F p (by simp; exact ⟨hps, hpN⟩)).1, AV.chg_no];have := Yi (Y14 s) (ovl env noP p);exact ⟨fun z O => (hno p).1 z (this.1 z O), fun z O => (hno p).2 z (this.2 z O)⟩
theorem Y88 {s i off n : Nat} {agg : Bool} {p : List (Bool × Nat)} (y : o.op = .extract (.tmp s) i) (m : o.dst = some d) (F : RE c env a.tmps w) (C : d < env.length) (G : get env s = .con (.tup p) ls) (E : tupOff p i = some (off, agg, n))
  (j : (takeLs n (dropLs off ls)).all (fun l => l.m.live) = true) (g : ls.all (fun l => l.m.bare) = true) (B : K (setD (some d) (put (killRoot s env) s (.con (.tup p) (killLeaves ls off n))) (mkCon agg (takeLs n (dropLs off ls)))) = some r) (D : Next c a K r env.length next) : o.wp P a w next Q := by
 obtain ⟨vs, h⟩ := F;obtain ⟨I, v, A, e2, z⟩ := h.grabTup G E (fun l q => Xa.1 g l q) (fun l q => Xa.1 j l q);have b : (put (killRoot s env) s (.con (.tup p) (killLeaves ls off n))).length = env.length := by rw [Y5, Ya]
 rw [<- b] at z;refine fin m (v := v) ?_ (by rw [b]; exact C) b z (by rw [Y0]) B D;simp [execOp, y, Y6, A, Instr.extract, e2]
end
theorem El.at2 {α : Type} {P : List Value -> α -> List Nat -> Prop} : ∀ {l : List α} {xs : List Value} {bs : List Nat} (i : Nat) (h : i < l.length), El P n xs l bs ->
  ∃ m c g z b A, xs = m ++ c ++ g /\ m.length = i * n /\ c.length = n /\ bs = z ++ b ++ A /\ P c l[i] b /\
   (∀ (Q : List Value -> α -> List Nat -> Prop), (∀ c x j, (∀ k ∈ j, k ∈ z ++ A) -> P c x j -> Q c x j) -> ∀ q y j, q.length = n -> Q q y j -> El Q n (m ++ q ++ g) (l.set i y) (z ++ j ++ A))
 | [], _, _, i, h, _ => by simp at h
 | x :: r, xs, bs, 0, h, ⟨c, xs', b, bs', e, l, eb, p, t⟩ =>
  ⟨[], c, xs', [], b, bs', by simpa using e, sm, l, by simpa using eb, p, fun Q C q y j G B => ⟨q, xs', j, bs', sm, G, sm, B, El.imp (fun c x j E => C c x j (by simpa using E)) t⟩⟩
 | x :: r, xs, bs, i + 1, h, ⟨c, xs', b, bs', e, l, eb, p, t⟩ => by
  obtain ⟨m, L, g, z, A, I, M, O, l2, D, U, N⟩ := El.at2 i (by simpa using h) t;refine ⟨c ++ m, L, g, b ++ z, A, I, by rw [e, M]; simp [X7], by rw [Xl, l, O, X2d]; omega, l2, by rw [eb, D]; simp [X7], U, ?_⟩;intro Q C q y j G B;exact ⟨c, m ++ q ++ g, b, z ++ j ++ I, by simp [X7], l, by simp [X7], C _ _ _ (fun k F => by simp [F]) p, N Q (fun c x j E B => C c x j (fun k F => by have := E k F; simp at this ⊢; rcases this with h | h <;> simp [h]) B) q y j G B⟩
theorem Rep.leafAt : ∀ (t : Ty) {lv : Lvl} {cs : List Value} {x : t.D} {bs : List Nat} {o : Nat} {q : Σ t : Ty, t.D}, Rep S w t lv cs x bs -> leafD t x o = some q ->
  ∃ u A C B, cs[o]? = some u /\ bs = A ++ C ++ B /\ Rep S w q.1 lv [u] q.2 C /\
   ∀ (S' : Nat -> Prop) (w' : World) (m : Value) (l : Leaf) (g : List Nat), l.t = q.1 -> Rep S' w' l.t lv [m] l.x g -> (∀ b, S b -> b < w.heap.size -> S' b /\ w'.heap[b]? = w.heap[b]?) -> (∀ b ∈ A ++ B, w'.heap[b]? = w.heap[b]?) ->
    ∃ y, updLeafD t x o l = some y /\ Rep S' w' t lv (cs.set o m) y (A ++ g ++ B)
 | .int k, lv, cs, x, bs, o, q, h, hl => by
  simp only [leafD] at hl;split at hl
  ·rename_i p;subst p;simp at hl;subst hl;obtain ⟨rfl, rfl⟩ := h;refine ⟨_, [], [], [], rfl, rfl, ⟨rfl, rfl⟩, fun S' w' m l g i z _ _ => ?_⟩;obtain ⟨W, lx, V⟩ := l;subst i;obtain ⟨E, rfl⟩ := z;exact ⟨lx, by simp [updLeafD, Leaf.as], by simpa using E, rfl⟩
  ·simp at hl
 | .bool, lv, cs, x, bs, o, q, h, hl => by
  simp only [leafD] at hl;split at hl
  ·rename_i p;subst p;simp at hl;subst hl;obtain ⟨rfl, rfl⟩ := h;refine ⟨_, [], [], [], rfl, rfl, ⟨rfl, rfl⟩, fun S' w' m l g i z _ _ => ?_⟩;obtain ⟨W, lx, V⟩ := l;subst i;obtain ⟨E, rfl⟩ := z;exact ⟨lx, by simp [updLeafD, Leaf.as], by simpa using E, rfl⟩
  ·simp at hl
 | .str, lv, cs, x, bs, o, q, h, hl => by
  simp only [leafD] at hl;split at hl
  ·rename_i p;subst p;simp at hl;subst hl;obtain ⟨rfl, rfl⟩ := h;refine ⟨_, [], [], [], rfl, rfl, ⟨rfl, rfl⟩, fun S' w' m l g i z _ _ => ?_⟩;obtain ⟨W, lx, V⟩ := l;subst i;obtain ⟨E, rfl⟩ := z;exact ⟨lx, by simp [updLeafD, Leaf.as], by simpa using E, rfl⟩
  ·simp at hl
 | .slice e t, lv, cs, x, bs, o, q, h, hl => by
  simp only [leafD] at hl;split at hl
  ·rename_i p;subst p;simp at hl;subst hl;obtain ⟨v, L, Z, D, rfl, rfl, h3, h4⟩ := h;refine ⟨v, [], Z ++ D, [], rfl, sm, ⟨v, L, Z, D, rfl, rfl, h3, h4⟩, fun S' w' m l g i z _ _ => ?_⟩;obtain ⟨W, lx, V⟩ := l;subst i;exact ⟨lx, by simp [updLeafD, Leaf.as], by simpa using z⟩
  ·simp at hl
 | .unit, lv, cs, x, bs, o, q, h, hl => by simp [leafD] at hl
 | .pair a b, lv, cs, x, bs, o, q, h, hl => by
  obtain ⟨L, c2, D, b2, rfl, rfl, M, h2⟩ := h;have I := Rep.len M;simp [leafD] at hl;split at hl
  ·rename_i p;obtain ⟨u, A, C, B, N, k2, O, U⟩ := Rep.leafAt a M hl;subst k2;refine ⟨u, A, C, B ++ b2, by rw [Xj om]; exact N, sm, O, fun S' w' m l g i z F G => ?_⟩;obtain ⟨y, X, Y⟩ := U S' w' m l g i z F (fun b j => G b (by simp at j ⊢; rcases j with h | h <;> simp [h]));refine ⟨(y, x.2), by simp [updLeafD]; rw [X4 p, X], L.set o m, c2, A ++ g ++ B, b2, by rw [List.set_append_left _ _ om], by simp only [X7], Y, ?_⟩;exact Rep.move F (fun b j => G b (by simp [j])) h2
  ·rename_i p;obtain ⟨u, A, C, B, N, k2, O, U⟩ := Rep.leafAt b h2 hl;subst k2;refine ⟨u, D ++ A, C, B, by rw [Xc om, I]; exact N, sm, O, fun S' w' m l g i z F G => ?_⟩;obtain ⟨y, X, Y⟩ := U S' w' m l g i z F (fun b j => G b (by simp at j ⊢; rcases j with h | h <;> simp [h]));refine ⟨(x.1, y), by simp [updLeafD]; rw [X2 p, X], L, c2.set (o - a.sz) m, D, A ++ g ++ B, by rw [X22 _ _ om, I], by simp only [X7], ?_, Y⟩;exact Rep.move F (fun b j => G b (by simp [j])) M
end Go.FP
