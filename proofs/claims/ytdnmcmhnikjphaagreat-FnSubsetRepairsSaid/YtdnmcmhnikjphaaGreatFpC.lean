/- How Go values lie in memory, and an evaluator of code with its soundness (part 3 of 7). Conditions: those that stand in each theorem; nothing is assumed of any program. -/
import Derived.Test.YtdnmcmhnikjphaaGreatFpB
import Derived.Maps.AppendAt
import Derived.Laws.CopyOwn

set_option linter.unusedVariables false
set_option linter.unusedSimpArgs false
set_option linter.unnecessarySimpa false

namespace Go.FP
open Go.RowKit
variable {P : Program} {T : Tab} {S : Nat -> Prop} {w : World} {env : Env} {tmps : Array Value} {vs : Nat -> Value} {ps : Nat -> AV} {cs : Nat -> List Value} {bs : Nat -> Nat -> List Nat} {c : Cx} {s : St} {ls : List Leaf} {x : Operand} {t : Ty} {v : Value} {f : FuncId} {e : TypeId} {lf : Leaf} {n : Nat} {u : Value} {k : Kind} {av : AV} {sg : Sig} {lv : Lvl} {τ : Ty} {w' : World} {us : List Value} {id : TypeId} {te : TE}
section
variable {P : Program} {o : Oper} {a : Act} {w : World} {R : Type} {K : Env -> Option R} {r : R} {next : Act -> World -> Prop} {Q : Exit -> Act -> World -> Prop} {c : Cx} {d : Nat} {T : Tab} {env : Env} {sig : FuncId -> Option Sig} {caps : FuncId -> List Ty} {orc : Orc}
theorem Ydt {cl : Call} {extra : List AV} {ex : List Value} (hop : o.op = .call cl) (hdst : o.dst = some d) (hr : RE c env a.tmps w) (hd : d < env.length)
  (hrun : Enterable P f -> (execOp a.eval o).run P w = .ok (.enter f (cl.args.map (evT a.tmps) ++ ex.toArray)) w) (hex : ∀ vs cs bs, Rel c (SS env noP a.tmps vs w cs bs) -> ValCs c (SS env noP a.tmps vs w cs bs) extra ex) (hexr : ∀ v ∈ extra, (∀ q ∈ v.refs, q.1 < env.length)) (hO : ∀ args q x, orc f args = some q -> q.run = some x -> Enterable P f /\ ∃ t y ys, q.pk x = ⟨t, y⟩ :: ys /\ FnSpecNew P f id sg.results t args y ys)
  (hK : callN caps orc (some d) f sg id cl.args.toList extra env K = some r) (hn : Next c a K r env.length next) : o.wp P a w next Q := by
 unfold callN at hK;simp only at hK;split at hK
 ·rename_i hc;obtain ⟨⟨hlen1, hlen2⟩, hcon⟩ := hc;split at hK
  ·simp at hK
  ·rename_i rvs hrv;split at hK
   ·simp at hK
   ·rename_i q hq;obtain ⟨z0, hres, hK⟩ := Xr.1 hK;obtain ⟨hent, t, y, ys, e1, hspec⟩ := hO rvs q z0 hq hres;rw [e1] at hK;obtain ⟨sh, ls2, kk, hrl, hkk, hK⟩ : ∃ sh ls2 kk, resLeaves sg.results ys = some (sh, ls2) /\ ((sg.results = [] /\ kk = .box ⟨id, false, []⟩) \/ (sg.results ≠ [] /\ kk = .tupB id t.sz sh)) /\ K (setD (some d) (freezeArgs [] (rdArgs env sg.params cl.args.toList ++ extra) env) (.con kk (leaves t y (fun _ => .at_ .ro) 0 ++ ls2))) = some r := by
     unfold newAV at hK;simp only at hK;cases hrl : resLeaves sg.results ys with
     | none => rw [hrl] at hK; simp at hK
     | some z =>
      obtain ⟨sh, ls2⟩ := z;rw [hrl] at hK;cases hrs : sg.results with
      | nil =>
       rw [hrs] at hK hrl;have : ls2 = [] := by
        cases ys with
        | nil => simp only [resLeaves, X0, X11] at hrl; exact hrl.2.symm
        | cons _ _ => simp [resLeaves] at hrl
       subst this;exact ⟨sh, [], _, rfl, .inl ⟨rfl, rfl⟩, by rw [Xf]; exact hK⟩
      | cons p ps =>
       rw [hrs] at hK;exact ⟨sh, ls2, _, rfl, .inr ⟨by simp, rfl⟩, hK⟩
    obtain ⟨vs, hlen, cs, bs, hrel, hno⟩ := hr;have hr : RE c env a.tmps w := ⟨vs, hlen, cs, bs, hrel, hno⟩;generalize hvs : rdArgs env sg.params cl.args.toList ++ extra = avs at *;have hargl : cl.args.toList.length <= sg.params.length := by rw [<- hlen1, hlen2]; omega
    have hvals : ValCs c (SS env noP a.tmps vs w cs bs) avs (cl.args.toList.map (evT a.tmps) ++ ex) := by
     rw [<- hvs];exact (Y2p hlen hrel hargl).1.append (hex vs cs bs hrel)
    have hptr : ∀ v ∈ avs, v.ptrs = [] := fun v hv => by
     have : ∀ {l : List AV}, allCon l = true -> ∀ v ∈ l, v.ptrs = [] := by
      intro l
      induction l with
      | nil => intro _ v hv; simp at hv
      | cons x l ih =>
       intro h v hv;cases x with
       | con k ls =>
        rcases Xq.1 hv with rfl | hv
        ·rfl
        ·exact ih h v hv
       | _ => simp [allCon] at h
     exact this hcon v hv
    have hrefs : ∀ v ∈ avs, ∀ q ∈ v.refs, q.1 < env.length := by
     intro v hv;rw [<- hvs] at hv;rcases X5.1 hv with hv | hv
     ·exact (Y3a hr v hv).1
     ·exact hexr v hv
    let S : Nat -> Prop := fun b => RoS c (SS env noP a.tmps vs w cs bs) b \/ ∃ v ∈ avs, ∃ q ∈ v.refs, b ∈ bs q.1 (q.2 + 1)
    have hrvr : RVRels S w rvs (cl.args.toList.map (evT a.tmps) ++ ex) :=
     Y40 hrel (fun b hb => .inl hb) hvals hrv (fun v hv q hq b hb => .inr ⟨v, hv, q, hq, hb⟩) (fun v hv q hq l b hb => by rw [hptr v hv] at hq; simp at hq)
    unfold Oper.wp;rw [hrun hent];show Calls P f _ w _;have hargs : cl.args.map (evT a.tmps) ++ ex.toArray = (cl.args.toList.map (evT a.tmps) ++ ex).toArray := by
     rw [<- List.append_toArray, <- X2i, X1c]
    rw [hargs];refine X2j (hspec S w _ hrvr) ?_
    rintro e w' ⟨B, ch, chs, bsx, rfl, hb, hB, hBh, hrep, hrr, hnd, hfrs⟩
    show next (a.put o.dst (newRes B sg.results chs)) w'
    rw [hdst];obtain ⟨m1, m2, m3, bds, m4, m5, m6⟩ := Y3p hrr hrl;have hmode := Y2c hrl;subst m5;obtain ⟨hBn, hnd2⟩ := X1q.1 hnd;obtain ⟨n1, n2⟩ := Y14 hnd2;obtain ⟨bs1, hr1, k1, k2⟩ := hrel.freezeArgs_ [] avs hcon;have e := Y1r [] avs (ps := noP) hrefs (fun r => .inl rfl);have hl1 := Y1o [] avs env;have hr2 : Rel c (SS (freezeArgs [] avs env) noP a.tmps vs w cs bs1) := Rel.congr hr1 e rfl;have h1 : RP c (freezeArgs [] avs env) a.tmps w noP vs := by
     refine ⟨hl1.trans hlen, cs, bs1, hr2, fun r => ?_⟩;rw [hl1, <- e];have := Y1f [] avs (ovl env noP) r;exact ⟨fun q hq => (hno r).1 q (this.1 q hq), fun q hq => (hno r).2 q (this.2 q hq)⟩
    generalize henv1 : freezeArgs [] avs env = env1 at *;have hno1 := h1;obtain ⟨hlen1', _, _, _, hno1⟩ := h1;have hS : ∀ b, S b -> RoS c (SS env1 noP a.tmps vs w cs bs1) b := by
     intro b hb;rcases hb with hb | ⟨v, hv, q, hq, hb⟩
     ·exact ⟨fun r l hm => hb.1 r l (k1 r l b hm), hb.2⟩
     ·refine ⟨fun r l hm => ?_, .inr (hrel.own _ _ _ hb).1⟩;have hm' : b ∈ bs r l := k1 r l b hm;obtain ⟨rfl, rfl⟩ := hrel.disj _ _ _ _ _ hm' hb;have : b ∈ bs1 q.1 (q.2 + 1) := hm;rw [k2 v hv q hq] at this;simp at this
    have hBlt : B < w'.heap.size := (Xv.1 hBh).1;obtain ⟨g1, g2⟩ := Y1u t (fun _ => .at_ .ro) 0 hrep;have hchl : ch.length = t.sz := hrep.len;generalize hls1 : leaves t y (fun _ => .at_ .ro) 0 = ls1 at *;have hbare1 : ∀ l ∈ ls1, l.m = .at_ .ro := fun l hl => Y2f t y 0 l (hls1 ▸ hl);have hset : ∀ l ∈ ls1 ++ ls2, l.m.settled = true := fun l hl => (X5.1 hl).elim (fun h => by rw [hbare1 l h]; rfl) (m3 l);have hnn : ∀ r, (∀ q ∈ (ovl env1 noP r).refs, q.1 ≠ env1.length /\ q.1 ≠ env1.length) /\ (∀ q ∈ (ovl env1 noP r).ptrs, q ≠ env1.length /\ q ≠ env1.length) := fun r =>
     ⟨fun q hq => by have := (hno1 r).1 q hq; omega, fun q hq => by have := (hno1 r).2 q hq; omega⟩
    have hbN := Y85 hr2 (Xi _) rfl
    let bd : Nat -> List Nat := fun l => if l = 0 then [B] else if l <= ch.length then [] else bds.getD (l - 1 - ch.length) []
    have hbd : ∀ l b, b ∈ bd l -> (l = 0 /\ b = B) \/ (ch.length < l /\ b ∈ bds.getD (l - 1 - ch.length) []) := fun l b hb' => by
     simp only [bd] at hb';split at hb'
     ·rename_i h0; exact .inl ⟨h0, by simpa using hb'⟩
     ·split at hb'
      ·simp at hb'
      ·exact .inr ⟨by omega, hb'⟩
    have hltb : ∀ l b, b ∈ bds.getD l [] -> b < w'.heap.size := by
     intro l b hb;have hlt : l < bds.length := by
      rw [Xh] at hb;cases hl : bds[l]? with
      | none => rw [hl] at hb; simp at hb
      | some x => exact (X6.1 hl).1
     obtain ⟨m, _, hrep⟩ := m6 l _ _ (X1 (by omega)) (X1 (by omega));exact Rep.lt hrep b hb
    have hRo : ∀ k, ((S k \/ w.heap.size <= k) /\ k ∉ B :: bds.flatten) -> RoS c ⟨upd (upd (ovl env1 noP) env1.length .undef) env1.length (.con kk (ls1 ++ ls2)), upd (ovlT a.tmps vs) env1.length (newRes B sg.results chs), w', upd cs env1.length (ch ++ chs.flatten), upd (upd bs1 env1.length (fun _ => [])) env1.length bd⟩ k := by
     intro k hk;refine ⟨fun r l hm => ?_, ?_⟩
     ·have hm : k ∈ (upd (upd bs1 env1.length (fun _ => [])) env1.length bd) r l := hm;rw [Yf] at hm;by_cases hrN : r = env1.length
      ·subst hrN;rw [Y0] at hm;rcases hbd l k hm with ⟨_, h⟩ | ⟨_, h⟩
       ·exact hk.2 (by rw [h]; simp)
       ·exact hk.2 (X3 _ (Yi h))
      ·rw [Y2 _ _ hrN] at hm;rcases hk.1 with h | h
       ·exact (hS k h).1 r l hm
       ·have := (hr2.own _ _ _ hm).2;have this : k < w.heap.size := this;omega
     ·rcases hk.1 with h | h
      ·exact (hS k h).2
      ·exact .inr (hr2.mine_new h)
    have hre := hr2.reform (n := env1.length) (m := env1.length) hnn (w' := w') (hb.mono hr2.base) (fun b hb' _ => hb.block b hb') (.con kk (ls1 ++ ls2)) (newRes B sg.results chs) (ch ++ chs.flatten) bd (fun l b hb' => ?_) (fun l l' b hb1 hb2 => ?_) (fun l => ?_) (fun hkeep => ?_)
    ·have hp : RP c env1 a.tmps w' (upd noP env1.length (.con kk (ls1 ++ ls2))) (upd vs env1.length (newRes B sg.results chs)) := by
      have e2 : upd (upd (ovl env1 noP) env1.length .undef) env1.length (.con kk (ls1 ++ ls2)) = ovl env1 (upd noP env1.length (.con kk (ls1 ++ ls2))) := by
       rw [Yf, Yd (Xi _)]
      refine ⟨hlen1', _, _, Rel.congr hre e2 (Y13 (hlen1' ▸ Xi _) _).symm, fun r => ?_⟩;rw [Yd (Xi _)];by_cases hrN : r = env1.length
      ·subst hrN;rw [Y0];have := Yc (k := kk) hset;rw [this.1, this.2];exact ⟨by simp, by simp⟩
      ·rw [Y2 _ _ hrN]; exact hno1 r
     have := RE.commit hp (by rw [hl1]; exact hd);rw [Y0] at this;exact hn _ _ _ hK this (by rw [Y18]; exact hl1) rfl
    ·rcases hbd l b hb' with ⟨_, rfl⟩ | ⟨_, h⟩
     ·exact ⟨hBlt, .inl hB⟩
     ·exact ⟨hltb _ _ h, .inl (hfrs b (Yi h))⟩
    ·rcases hbd l b hb1 with ⟨h1, e1⟩ | ⟨h1, e1⟩ <;> rcases hbd l' b hb2 with ⟨h2, e2⟩ | ⟨h2, e2⟩
     ·omega
     ·exact absurd (Yi e2) (e1 ▸ hBn)
     ·exact absurd (Yi e1) (e2 ▸ hBn)
     ·have := n2 _ _ b e1 e2;omega
    ·simp only [bd];split
     ·simp
     ·split
      ·exact X16
      ·exact n1 _
    ·refine ⟨?_, by simp only [Y0]; rw [Xk, Xk, g1, m2], fun l hl => ?_, fun l lf u hl hu => ?_⟩
     ·simp only [Y0];rcases hkk with ⟨e0, rfl⟩ | ⟨e0, rfl⟩
      ·have e3 : chs.flatten = [] /\ newRes B sg.results chs = .pointer (some ⟨B, 0, none⟩) := by
        rw [e0] at hrr;refine ⟨by rw [hrr.2.1]; rfl, by rw [e0]; rfl⟩
       rw [e3.1, e3.2, Xf];exact ⟨B, rfl, hBh, rfl, by simp [nthB]⟩
      ·refine ⟨B, resVals sg.results chs, ch, chs.flatten, ?_, rfl, hchl, hBh, rfl, m1⟩;cases hrs : sg.results with
       | nil => exact absurd hrs e0
       | cons p ps => rfl
     ·simp only [Y0];rw [Xk] at hl;show bd (l + 1) = [];simp only [bd];rw [X2 (by omega), X2 (by omega), Xh, X23 (by omega)];rfl
     ·simp only [Y0] at hu;rw [Y1] at hl;by_cases hlt : l < ch.length
      ·rw [Xp (by omega)] at hl;rw [Xp hlt] at hu;have hm := hbare1 lf (X8 hl);have hr3 := (g2 l lf u hl hu).1;obtain ⟨t1, x1, m1⟩ := lf;simp only at hm hr3;subst hm;refine LeafRel.of_rep trivial ?_;have eb : bd (l + 1) = [] := by simp only [bd]; rw [X2 (by omega), X4 (by omega)]
       simp only [Y0, eb];exact Rep.move (fun k hk hlt => ⟨hRo k hk, rfl⟩) (fun _ _ => rfl) hr3
      ·rw [Xd (by omega)] at hl;rw [Xd (by omega)] at hu;obtain ⟨m, e1, hrep2⟩ := m6 (l - ch.length) lf u (by rw [<- g1]; exact hl) hu;have hmo := hmode lf (X8 hl);obtain ⟨t1, x1, m'⟩ := lf;simp only at e1;subst e1;refine LeafRel.of_rep (by cases m <;> first | trivial | exact absurd rfl (hmo _)) ?_;have eb : bd (l + 1) = bds.getD (l - ch.length) [] := by
        simp only [bd]; rw [X2 (by omega), X2 (by omega)]; congr 1
       simp only [Y0, eb];exact Rep.move (fun k hk hlt => ⟨hRo k hk, rfl⟩) (fun _ _ => rfl) hrep2
 ·simp at hK
end
section
variable {P : Program} {o : Oper} {a : Act} {w : World} {R : Type} {K : Env -> Option R} {r : R} {next : Act -> World -> Prop} {Q : Exit -> Act -> World -> Prop} {c : Cx} {d : Nat} {T : Tab} {env : Env} {sig : FuncId -> Option Sig} {caps : FuncId -> List Ty} {orc : Orc}
theorem Ydu (hO : OrcOk P sig orc) {cl : Call} {extra : List AV} {ex : List Value} (hop : o.op = .call cl) (hdst : o.dst = some d) (hr : RE c env a.tmps w) (hd : d < env.length)
  (hrun : Enterable P f -> (execOp a.eval o).run P w = .ok (.enter f (cl.args.map (evT a.tmps) ++ ex.toArray)) w) (hex : ∀ vs cs bs, Rel c (SS env noP a.tmps vs w cs bs) -> ValCs c (SS env noP a.tmps vs w cs bs) extra ex) (hsg : sig f = some sg) (hbx : sg.box = none /\ sg.newb = none) (hm : sg.muts = false) (how : sg.own = true) (hgv : sg.give = none) (hK : callS orc (some d) f sg cl.args.toList extra env K = some r) (hn : Next c a K r env.length next) : o.wp P a w next Q := by simp [callS] at hK
end
section
variable {P : Program} {o : Oper} {a : Act} {w : World} {R : Type} {K : Env -> Option R} {r : R} {next : Act -> World -> Prop} {Q : Exit -> Act -> World -> Prop} {c : Cx} {d : Nat} {T : Tab} {env : Env}
theorem RP.grab (h : RP c env tmps w ps vs) (hs : ∀ r, Settled (ps r)) {s : Nat} (hk : get env s = .con k ls) (hset : ∀ l ∈ ls, l.m.settled = true) (hn : env.length <= n) (hp : ps n = .undef) :
  RP c (killRoot s env) tmps w (upd ps n (.con k ls)) (upd vs n (tmps.getD s undef)) := by
 have hsl : s < env.length := Yw hk;have hsn : s ≠ n := X1k (X1e hsl hn);obtain ⟨hlen, cs, bs, hr, hno⟩ := h;obtain ⟨hk2, hk3⟩ := hr.killRoot_ s;have hEn : chgE (killG s) (ovl env ps) n = .undef := by simp [chgE]; rw [Yt hn, hp]; rfl
 have hEs : chgE (killG s) (ovl env ps) s = .con k ls := by simp [chgE]; rw [Y8 hsl, hk]; simp only [AV.chg, Y4k _ hset]
 have h5 := hk2.move hsn (by show (chgE (killG s) (ovl env ps) n).quiet = true; rw [hEn]; rfl) hk3;simp [hEs] at h5;have e1 : upd (upd (chgE (killG s) (ovl env ps)) s .undef) n (.con k ls) = ovl (killRoot s env) (upd ps n (.con k ls)) := by
  rw [Yd (by rw [Ya]; exact hn)];unfold killRoot;rw [Yu (by rw [Y7]; exact hsl), Y20 _ _ _ hs]
 have e2 : upd (ovlT tmps vs) n (ovlT tmps vs s) = ovlT tmps (upd vs n (tmps.getD s undef)) := by
  rw [Y13 (hlen ▸ hn)];congr 1;exact X4 (hlen ▸ hsl)
 refine ⟨by rw [Ya]; exact hlen, _, _, Rel.congr h5 e1 e2, fun r => ?_⟩;rw [Ya, <- e1];simp only [upd];split
 ·rw [(Yc hset).1, (Yc hset).2]; exact ⟨by simp, by simp⟩
 ·split
  ·exact ⟨by simp [AV.refs], by simp [AV.ptrs]⟩
  ·have := Yj (Y10 s) (ovl env ps r);exact ⟨fun q hq => (hno r).1 q (this.1 q hq), fun q hq => (hno r).2 q (this.2 q hq)⟩
theorem RP.grabPlace (h : RP c env tmps w ps vs) (hs : ∀ r, Settled (ps r)) {ts r j : Nat} {x : t.D} (hk : get env ts = .con .val [⟨t, x, .bor r j []⟩]) {lp : Leaf} (hl : (get env r).leaf? j = some lp) (hm : lp.m = .at_ lv) (hlv : lv ≠ .ro) (hn : env.length <= n) (hp : ps n = .undef) :
  let env2 := killPlace r j env
  RP c (put env2 r ((get env2 r).setLeaf j ⟨lp.t, lp.x, .dead⟩)) tmps w (upd ps n (.con .val [⟨t, x, .at_ lv⟩])) (upd vs n (tmps.getD ts undef)) := by
 intro env2;have htl : ts < env.length := Yw hk;have hrl : r < env.length := Y1p hl;have hrn : r ≠ n := X1k (X1e hrl hn);obtain ⟨hlen, cs, bs, hr, hno⟩ := h
 replace hr : Rel c (SS env ps tmps vs w cs bs) := hr
 -- what is borrowed is the place itself
 have hav := hr.av ts;have e1 : (SS env ps tmps vs w cs bs).env ts = .con .val [⟨t, x, .bor r j []⟩] := by show ovl env ps ts = _; rw [Y8 htl]; exact hk
 have e2 : (SS env ps tmps vs w cs bs).tm ts = tmps.getD ts undef := X4 (hlen ▸ htl);have hbor : (cs r)[j]? = some (tmps.getD ts undef) /\ lp = ⟨t, x, lp.m⟩ := by
  rw [e1, e2] at hav;obtain ⟨⟨g1, _⟩, g2, _, g4⟩ := hav;have := g4 0 _ (tmps.getD ts undef) rfl (by rw [g1]; rfl);obtain ⟨_, _, ⟨lf', u', ⟨g5, g6, g7⟩, g8⟩, _⟩ := this;have g5 : (ovl env ps r).leaf? j = some lf' := g5;rw [Y8 hrl, hl] at g5;simp at g5;obtain ⟨m, g9, rfl⟩ := g8 rfl;subst g5;exact ⟨g7, by rw [g9]⟩
 obtain ⟨hcj, hlp⟩ := hbor;obtain ⟨hk2, hk3⟩ := hr.killPlace_ r j;obtain ⟨k0, ls0, hv0⟩ : ∃ k ls, get env r = .con k ls := by
  cases hv : get env r with
  | con k ls => exact ⟨k, ls, rfl⟩
  | _ => rw [hv] at hl; simp [AV.leaf?] at hl
 have hl' : leafAt ls0 j = some lp := by rw [hv0] at hl; exact hl
 let E := chgE (killPG r j) (ovl env ps)
 have hEr : E r = .con k0 (chgs (killPG r j) ls0) := by show (ovl env ps r).chg _ = _; rw [Y8 hrl, hv0]; rfl
 have hEn : E n = .undef := by show (ovl env ps n).chg _ = _; rw [Yt hn, hp]; rfl
 have hlj : leafAt (chgs (killPG r j) ls0) j = some lp := by
  rw [Yh, hl'];obtain ⟨t', x', m'⟩ := lp;simp only at hm;subst hm;rfl
 let dl : Leaf := ⟨lp.t, lp.x, .dead⟩
 let s' : St := ⟨upd (upd E r (.con k0 (setAt (chgs (killPG r j) ls0) j dl))) n (.con .val [⟨t, x, .at_ lv⟩]), upd (ovlT tmps vs) n (tmps.getD ts undef), w, upd cs n [tmps.getD ts undef], upd (updP bs r (j + 1) []) n (fun l => if l = 1 then bs r (j + 1) else [])⟩
 have hbn := Y85 hr hn hp;have hsame : ∀ r', ¬ (r' = r \/ r' = n) -> s'.env r' = (E r').chg noG /\ s'.tm r' = ovlT tmps vs r' /\ s'.cs r' = cs r' /\ s'.bs r' = bs r' := fun r' hr' => by
  simp at hr';refine ⟨by rw [AV.chg_no]; show upd _ _ _ r' = _; rw [Y2 _ _ hr'.2, Y2 _ _ hr'.1], Y2 _ _ hr'.2, Y2 _ _ hr'.2, ?_⟩;show upd _ _ _ r' = _;rw [Y2 _ _ hr'.2, Y1z _ _ _ hr'.1]
 have hEr' : s'.env r = .con k0 (setAt (chgs (killPG r j) ls0) j dl) := by show upd _ _ _ r = _; rw [Y2 _ _ hrn, Y0]
 have hbr : s'.bs r = fun l => if l = j + 1 then [] else bs r l := by
  show upd _ _ _ r = _;rw [Y2 _ _ hrn];funext l;simp [updP]
 have hcr : s'.cs r = cs r := Y2 _ _ hrn;have hbnn : s'.bs n = fun l => if l = 1 then bs r (j + 1) else [] := Y0 _ _ _
 have hown : ∀ r' j', ¬ (r' = r /\ j' = j) -> r' ≠ n -> SamePl ⟨E, ovlT tmps vs, w, cs, bs⟩ s' r' j' := by
  intro r' j' hne hne';by_cases hrr : r' = r
  ·subst hrr;refine ⟨fun lf u ⟨g1, g2, g3⟩ => ⟨?_, g2, by rw [hcr]; exact g3⟩, by rw [hbr]; exact X2 (fun h => hne ⟨rfl, by omega⟩), fun _ _ => rfl⟩;rw [hEr'];have g1 : (E r').leaf? j' = some lf := g1;rw [hEr] at g1;simp only [AV.leaf?] at g1 ⊢;rw [Y1, Y9, X10 (fun h => hne ⟨rfl, h.symm⟩), <- Y1];exact g1
  ·have hs4 := hsame r' (by simp; exact ⟨hrr, hne'⟩);exact ⟨fun lf u ho => ho.chg hs4.1 hs4.2.2.1, by rw [hs4.2.2.2], fun _ _ => rfl⟩
 have hptr : ∀ r', r' ≠ n -> SamePtr ⟨E, ovlT tmps vs, w, cs, bs⟩ s' r' := by
  intro r' hne';by_cases hrr : r' = r
  ·subst hrr;refine ⟨Y2 _ _ hne', fun e ls he => ?_⟩;have he : E r' = _ := he;rw [hEr] at he;cases he;exact ⟨e, _, hEr'⟩
  ·have hs4 := hsame r' (by simp; exact ⟨hrr, hne'⟩);exact SamePtr.chg hs4.1 hs4.2.1
 have hLr : ∀ r', (∀ q ∈ (E r').refs, ¬ (q.1 = r /\ q.2 = j) /\ q.1 ≠ n) /\ (∀ q ∈ (E r').ptrs, q ≠ n) := fun r' =>
  ⟨fun q hq => ⟨fun hq2 => hk3 r' q hq (Prod.ext hq2.1 hq2.2), by have h1 := (hno r').1 q ((Yj (Y1l r j) (ovl env ps r')).1 q hq); omega⟩,
   fun q hq => by have h1 := (hno r').2 q ((Yj (Y1l r j) (ovl env ps r')).2 q hq); omega⟩
 obtain ⟨hrepj, hpinj⟩ : Rep (RoS c ⟨E, ovlT tmps vs, w, cs, bs⟩) w t lv [tmps.getD ts undef] x (bs r (j + 1)) /\ lv.pinOk c (tmps.getD ts undef) := by
  have hav2 := hk2.av r;have : (E r) = _ := hEr;simp only [show chgE (killPG r j) (ovl env ps) r = _ from hEr] at hav2;have h6 := hav2.2.2.2 j lp _ hlj hcj;rw [hlp, hm] at h6;exact ⟨h6.rep, h6.pin⟩
 have hmain : Rel c s' := by
  refine Rel.step (s' := s') noG hk2 (fun r' => r' = r \/ r' = n) (fun r' j' => ¬ (r' = r /\ j' = j) /\ r' ≠ n) (fun r' => r' ≠ n) hsame (X1g _ _) (fun b _ _ => rfl)
   (fun r' l b hD hb => ?_) (fun r1 l1 r2 l2 b hD hD' hb1 hb2 => ?_) (fun r' l hD => ?_) (fun r' _ => hLr r') (fun hkp => ⟨Yq hkp (fun r' j' hL => hown r' j' hL.1 hL.2), Y15 hkp (fun r' j' hL => hown r' j' hL.1 hL.2), fun r' hL _ => hptr r' hL⟩) (fun hkp r' hD => ?_)
  ·by_cases hrr : r' = r
   ·subst hrr;rw [hbr] at hb
    replace hb : b ∈ (if l = j + 1 then [] else bs r' l) := hb
    split at hb
    ·simp at hb
    ·exact ⟨(hk2.own _ _ _ hb).2, .inr ⟨r', l, .inl rfl, hb⟩⟩
   ·have e := hD.resolve_left hrr;subst e;rw [hbnn] at hb
    replace hb : b ∈ (if l = 1 then bs r (j + 1) else []) := hb
    split at hb
    ·exact ⟨(hk2.own _ _ _ hb).2, .inr ⟨r, j + 1, .inl rfl, hb⟩⟩
    ·simp at hb
  ·by_cases h1 : r1 = r <;> by_cases h2 : r2 = r
   ·subst h1; subst h2;rw [hbr] at hb1 hb2
    replace hb1 : b ∈ (if l1 = j + 1 then [] else bs _ l1) := hb1
    replace hb2 : b ∈ (if l2 = j + 1 then [] else bs _ l2) := hb2
    split at hb1
    ·simp at hb1
    ·split at hb2
     ·simp at hb2
     ·exact hk2.disj _ _ _ _ _ hb1 hb2
   ·subst h1;have e := hD'.resolve_left h2;subst e;exfalso;rw [hbr] at hb1;rw [hbnn] at hb2
    replace hb1 : b ∈ (if l1 = j + 1 then [] else bs r1 l1) := hb1
    replace hb2 : b ∈ (if l2 = 1 then bs r1 (j + 1) else []) := hb2
    split at hb1
    ·simp at hb1
    ·rename_i hne;split at hb2
     ·exact hne (hk2.disj _ _ _ _ _ hb1 hb2).2
     ·simp at hb2
   ·subst h2;have e := hD.resolve_left h1;subst e;exfalso;rw [hbr] at hb2;rw [hbnn] at hb1
    replace hb2 : b ∈ (if l2 = j + 1 then [] else bs r2 l2) := hb2
    replace hb1 : b ∈ (if l1 = 1 then bs r2 (j + 1) else []) := hb1
    split at hb2
    ·simp at hb2
    ·rename_i hne;split at hb1
     ·exact hne (hk2.disj _ _ _ _ _ hb2 hb1).2
     ·simp at hb1
   ·grind
  ·by_cases hrr : r' = r
   ·subst hrr;rw [hbr];show (if l = j + 1 then [] else bs r' l).Nodup;split
    ·grind
    ·exact hk2.nodup _ _
   ·have e := hD.resolve_left hrr;subst e;rw [hbnn];show (if l = 1 then bs r (j + 1) else []).Nodup;split
    ·exact hk2.nodup _ _
    ·exact X16
  ·by_cases hrr : r' = r
   ·subst hrr;have hav2 := hk2.av r';simp only [show chgE (killPG r' j) (ovl env ps) r' = _ from hEr] at hav2;obtain ⟨g1, g2, g3, g4⟩ := hav2;rw [hEr'];have ht' : s'.tm r' = ovlT tmps vs r' := Y2 _ _ hrn;rw [ht'];refine ⟨?_, by rw [Y9, Xz, hcr]; exact g2, fun l hl2 => ?_, fun l lf u hl2 hu => ?_⟩
    ·grind
    ·rw [Y9, Xz] at hl2;rw [hbr];show (if l + 1 = j + 1 then [] else bs r' (l + 1)) = [];split
     ·rfl
     ·exact g3 l hl2
    ·rw [hcr] at hu;rw [Y1, Y9] at hl2;by_cases hlj2 : l = j
     ·subst hlj2;rw [X1m (by grind)] at hl2;simp at hl2;subst hl2;refine ⟨by rw [hbr]; simp, ?_⟩;have hu' : u = tmps.getD ts undef := by rw [hcj] at hu; exact (Xs hu).symm
      rw [hu'];exact Rep.one hrepj _ (by simp)
     ·rw [X10 (fun h => hlj2 h.symm), <- Y1] at hl2;have h6 := g4 l lf u hl2 hu;have := h6.chg (g := noG) (r' := r') hkp (Yq hkp (fun r' j' (hL : ¬ (r' = _ /\ j' = j) /\ r' ≠ n) => hown r' j' hL.1 hL.2)) (fun q hq => by
       have := (hLr r').1 q (by rw [show E r' = _ from hEr]; simp only [AV.refs, Xj]; exact ⟨lf, Yb hl2, hq⟩);exact this) (by rw [hbr]; show (if l + 1 = j + 1 then [] else bs r' (l + 1)) = _; rw [X2 (by omega)]) (fun _ _ => rfl)
      have hno1 : lf.chg noG = lf := by obtain ⟨t, x, m⟩ := lf; cases m <;> rfl
      rw [hno1] at this;exact this
   ·have e := hD.resolve_left hrr;subst e;have e1 : s'.env r' = .con .val [⟨t, x, .at_ lv⟩] := Y0 _ _ _;have e2 : s'.tm r' = tmps.getD ts undef := Y0 _ _ _;have e3 : s'.cs r' = [tmps.getD ts undef] := Y0 _ _ _;rw [e1, e2];refine ⟨by rw [e3, hbnn]; exact ⟨rfl, rfl⟩, by rw [e3]; rfl, fun l hl2 => ?_, fun l lf u hl2 hu => ?_⟩
    ·grind
    ·rw [e3] at hu;rw [Y1] at hl2;cases l with
     | succ l => simp at hl2
     | zero =>
      simp only [Xg, X0] at hl2 hu;subst hl2; subst hu;refine LeafRel.of_rep hpinj ?_;rw [hbnn];exact Rep.move (fun b hb hl => hkp b hb hl) (fun _ _ => rfl) hrepj
 have eE : upd (upd E r (.con k0 (setAt (chgs (killPG r j) ls0) j dl))) n (.con .val [⟨t, x, .at_ lv⟩]) = ovl (put env2 r ((get env2 r).setLeaf j dl)) (upd ps n (.con .val [⟨t, x, .at_ lv⟩])) := by
  rw [Yd (by rw [Y5]; show (chgEnv _ _).length <= n; rw [Y7]; exact hn), Yu (by show r < (chgEnv _ _).length; rw [Y7]; exact hrl)];congr 1;have : get env2 r = .con k0 (chgs (killPG r j) ls0) := by show get (chgEnv _ _) r = _; rw [Y16, hv0]; rfl
  rw [this];congr 1;exact Y20 _ _ _ hs
 refine ⟨by rw [Y5]; show (chgEnv _ _).length = _; rw [Y7]; exact hlen, _, _, Rel.congr hmain eE (Y13 (hlen ▸ hn) _).symm, fun r' => ?_⟩;rw [Y5, show env2.length = env.length from Y7 _ _, <- eE];simp only [upd];split
 ·exact ⟨by simp [AV.refs, Leaf.refs], by simp [AV.ptrs]⟩
 ·split
  ·rename_i hrr;subst hrr;refine ⟨fun q hq => ?_, by simp [AV.ptrs]⟩;have h1 := Y3s (l := dl) rfl q hq;have h2 : q ∈ (E r').refs := by rw [show E r' = _ from hEr]; exact h1
   exact (hno r').1 q ((Yj (Y1l r' j) (ovl env ps r')).1 q h2)
  ·exact ⟨fun q hq => (hno r').1 q ((Yj (Y1l r j) (ovl env ps r')).1 q hq), fun q hq => (hno r').2 q ((Yj (Y1l r j) (ovl env ps r')).2 q hq)⟩
end
theorem Y3v (hl : env.length = tmps.size) (h : Rel c (SS env ps tmps vs w cs bs)) (hn : env.length <= n) {x : t.D} (hp : ps n = .con .val [⟨t, x, .at_ lv⟩]) :
  Rep (RoS c (SS env ps tmps vs w cs bs)) w t lv [vs n] x (bs n 1) /\ bs n 0 = [] /\ cs n = [vs n] := by
 have hav := h.av n;have e1 : (SS env ps tmps vs w cs bs).env n = .con .val [⟨t, x, .at_ lv⟩] := by show ovl env ps n = _; rw [Yt hn, hp]
 have e2 : (SS env ps tmps vs w cs bs).tm n = vs n := X2 (by grind);rw [e1, e2] at hav;obtain ⟨⟨g1, g2⟩, g3, _, g4⟩ := hav;exact ⟨(g4 0 _ (vs n) rfl (by rw [g1]; rfl)).rep, g2, g1⟩
theorem RP.reformAt (hl : env.length = tmps.size) (h1 : Rel c (SS env ps tmps vs w cs bs)) (h2 : ∀ r, (∀ q ∈ (ovl env ps r).refs, q.1 < env.length) /\ (∀ q ∈ (ovl env ps r).ptrs, q < env.length)) {n m : Nat} (hn : env.length <= n) (hm : env.length <= m) (hrf : av.refs = [] /\ av.ptrs = [])
  (hb : Below c.base w w') (hh : ∀ b, b < w.heap.size -> (∀ l, b ∉ bs n l) -> w'.heap[b]? = w.heap[b]?) (cd : List Value) (bd : Nat -> List Nat)
  (k1 : ∀ l b, b ∈ bd l -> b < w'.heap.size /\ (w.heap.size <= b \/ ∃ l', b ∈ bs n l' \/ b ∈ bs m l')) (k2 : ∀ l l' b, b ∈ bd l -> b ∈ bd l' -> l = l') (k3 : ∀ l, (bd l).Nodup)
  (k4 : let s' : St := ⟨upd (upd (ovl env ps) m .undef) n av, upd (ovlT tmps vs) n v, w', upd cs n cd, upd (upd bs m (fun _ => [])) n bd⟩; Keeps c (SS env ps tmps vs w cs bs) s' -> AVRel c s' n av v) :
  RP c env tmps w' (upd (upd ps m .undef) n av) (upd vs n v) := by
 have hno : ∀ r, (∀ q ∈ (ovl env ps r).refs, q.1 ≠ n /\ q.1 ≠ m) /\ (∀ q ∈ (ovl env ps r).ptrs, q ≠ n /\ q ≠ m) := fun r =>
  ⟨fun q hq => by have := (h2 r).1 q hq; omega, fun q hq => by grind⟩
 have h3 := h1.reform hno hb hh av v cd bd k1 k2 k3 k4;have e : upd (upd (ovl env ps) m .undef) n av = ovl env (upd (upd ps m .undef) n av) := by rw [Yd hn, Yd hm]
 refine ⟨hl, _, _, Rel.congr h3 e (Y13 (hl ▸ hn) v).symm, fun r => ?_⟩;rw [<- e];simp only [upd];split
 ·grind
 ·split
  ·exact ⟨by simp [AV.refs], by simp [AV.ptrs]⟩
  ·exact h2 r
section
variable {P : Program} {w : World} {c : Cx} {T : Tab} {env : Env}
theorem RP.appended (hT : TabOk P T) (h : RP c env tmps w ps vs) {t : TypeId} (ht : elemAt T t = some te) (ty : TypeId) {n m : Nat} (hn : env.length <= n) (hm : env.length <= m) {ss xs : List te.ty.D} {lv lx lvR : Lvl} {xv : Value}
  (hpn : ps n = .con .val [⟨.slice te.id te.ty, ss, .at_ lv⟩]) (hlv : lv ≠ .ro)
  (hx : (te.ty.flatB = true /\ m = n /\ ∃ S, Rep S w (.slice te.id te.ty) .ro [xv] xs []) \/ (m ≠ n /\ ps m = .con .val [⟨.slice te.id te.ty, xs, .at_ lx⟩] /\ vs m = xv))
  (hR0 : lvR = .sh \/ lvR = .dp) (hdp : lvR = .dp -> lv = .dp /\ (te.ty.flatB = true \/ lx = .dp)) (hbd : (ss.length + xs.length) * te.bytes <= 140737488355328) :
  ∃ v' w', (Builtin.append_ #[t, t] ty #[vs n, xv]).run P w = .ok v' w' /\ RP c env tmps w' (upd (upd ps m .undef) n (.con .val [⟨.slice te.id te.ty, ss ++ xs, .at_ lvR⟩])) (upd vs n v') := by
 have hR : lvR ≠ .ro := by grind
 obtain ⟨hty, hund, _, hsz, hby, i0, hi0, hi1, hi2, hi3⟩ := TabOk.elem hT ht;obtain ⟨hlen, cs, bs, hr, hno⟩ := h;have h : RP c env tmps w ps vs := ⟨hlen, cs, bs, hr, hno⟩
 -- the row itself
 have hsn := Y3v hlen hr hn hpn;obtain ⟨⟨v, cls, b0s, b1s, ev, ebs, hels, hrow⟩, hbn0, hcn⟩ := hsn;have ev : vs n = v := by simpa using ev
 have hrow : b0s = v.ownBlock.toList /\ w.ownsRow 0 te.id te.ty.sz v ss.length cls := by cases lv with | ro => exact absurd rfl hlv | sh => exact hrow | dp => exact hrow | pn _ => exact hrow
 obtain ⟨hb0s, hown⟩ := hrow
 -- what is appended
 have hxr : ∃ (S : Nat -> Prop) (bx : List Nat) (clx : List Value) (b1x : List Nat) (A : Option Addr) (cp : Nat), xv = .slice A xs.length cp /\ (A = none -> cp = 0) /\ xs.length <= cp /\ (∀ (j : Nat) (u : Value), clx[j]? = some u -> ∃ a, A = some a /\ w.cell? (a.add j) = some u) /\ clx.length = xs.length * te.ty.sz /\ (∀ u ∈ clx, u.oneCell' = true) /\
   ((te.ty.flatB = true /\ b1x = [] /\ El (Rep S w te.ty .ro) te.ty.sz clx xs []) \/ (m ≠ n /\ (∀ b ∈ b1x, b ∈ bs m 1) /\ b1x.Nodup /\ El (Rep (RoS c (SS env ps tmps vs w cs bs)) w te.ty lx.sub) te.ty.sz clx xs b1x)) := by
  rcases hx with ⟨hf, rfl, S, hrep⟩ | ⟨hmn, hpm, hvm⟩
  ·obtain ⟨u, clx, b0, b1, e1, e2, hel, hrw⟩ := hrep;have e1 : xv = u := by simpa using e1
   subst e1;obtain ⟨rfl, rfl⟩ := X21.1 e2.symm;obtain ⟨_, A, cp, e3, hl, hz, hc⟩ := hrw;exact ⟨S, [], clx, [], A, cp, e3, hz, hl, fun j u hu => let ⟨a, h1, _, h2⟩ := hc j u hu; ⟨a, h1, h2⟩, hel.len, hel.all (fun c x b h => Rep.one h), .inl ⟨hf, rfl, hel⟩⟩
  ·obtain ⟨hrep, _, _⟩ := Y3v hlen hr hm hpm;rw [hvm] at hrep;have hro := Rep.ro hrep;obtain ⟨u, clx, b0, b1, e1, e2, hel, hrw⟩ := hrep;obtain ⟨u', clx', b0', b1', e1', e2', hel', hrw'⟩ := hro;have e1 : xv = u := by simpa using e1
   subst e1;have hnd := hr.nodup m 1;have e2 : bs m 1 = b0 ++ b1 := e2;have hnd : (bs m 1).Nodup := hnd;rw [e2] at hnd;have hcells : ∃ A cp, xv = .slice A xs.length cp /\ (A = none -> cp = 0) /\ xs.length <= cp /\ ∀ (j : Nat) (u : Value), clx[j]? = some u -> ∃ a, A = some a /\ w.cell? (a.add j) = some u := by
    cases lx with
    | ro => obtain ⟨_, A, cp, e3, hl, hz, hc⟩ := hrw; exact ⟨A, cp, e3, hz, hl, fun j u hu => let ⟨a, h1, _, h2⟩ := hc j u hu; ⟨a, h1, h2⟩⟩
    | sh => obtain ⟨A, cp, e3, hl, hz, hc⟩ := Y2w hrw.2; exact ⟨A, cp, e3, hz, hl, fun j u hu => let ⟨a, h1, _, h2⟩ := hc j u hu; ⟨a, h1, h2⟩⟩
    | dp => obtain ⟨A, cp, e3, hl, hz, hc⟩ := Y2w hrw.2; exact ⟨A, cp, e3, hz, hl, fun j u hu => let ⟨a, h1, _, h2⟩ := hc j u hu; ⟨a, h1, h2⟩⟩
    | pn _ => obtain ⟨A, cp, e3, hl, hz, hc⟩ := Y2w hrw.2; exact ⟨A, cp, e3, hz, hl, fun j u hu => let ⟨a, h1, _, h2⟩ := hc j u hu; ⟨a, h1, h2⟩⟩
   obtain ⟨A, cp, e3, hz, hl, hc⟩ := hcells;exact ⟨fun _ => False, bs m 1, clx, b1, A, cp, e3, hz, hl, hc, hel.len, hel.all (fun c x b h => Rep.one h), .inr ⟨hmn, fun b hb => by rw [e2]; exact Xe _ hb, (X15.1 hnd).2.1, hel⟩⟩
 obtain ⟨S, bx, clx, b1x, A, cp, ex, hz, hxl, hxc, hxlen, hxone, hxel⟩ := hxr
 -- the run
 have hrun : ∃ v' w', (Builtin.append_ #[t, t] ty #[vs n, xv]).run P w = .ok v' w' /\ w'.ownsRow 0 te.id te.ty.sz v' (ss.length + xs.length) (cls ++ clx) /\ w.grownBy w' v.ownBlock /\ (v'.ownBlock = v.ownBlock \/ v'.ownBlock = some w.heap.size) := by
  cases A with
  | some ad =>
   have hz' : (zeroVal te.ty).cells.size = te.ty.sz := by rw [<- X17, Y1y, Y1i]
   have h63 : ss.length + xs.length <= maxLen := by
    have : (ss.length + xs.length) * 1 <= (ss.length + xs.length) * te.bytes := Nat.mul_le_mul_left _ hby;simp [maxLen];omega
   obtain ⟨v', w', h1, h2, h3, _, h5⟩ := run_append_own_at (P := P) w 0 t ty te.id i0 (zeroVal te.ty) te.ty.sz te.bytes hund hi0 hi3 hi1 hi2 hz' hsz v ss.length cls hown ad xs.length cp clx hxlen
    (fun j u hu => by grind) hxone h63 hbd (X2w _)
   exact ⟨v', w', by grind⟩
  | none =>
   have hcp := hz rfl;subst hcp;have hx0 : xs.length = 0 := by omega
   have hcl : clx = [] := Xn.1 (by grind);refine ⟨v, w, ?_, by rw [hx0, hcl, Xf]; exact hown, ⟨rfl, rfl, rfl, Xi _, fun _ _ _ => rfl⟩, .inl rfl⟩;rw [ev, ex, hx0];exact run_append_owned_none (P := P) (w := w) 0 t ty te.id i0 te.ty.sz hund hi0 v ss.length cls hown
 obtain ⟨v', w', hr1, hown', hgrow, hwhere⟩ := hrun;refine ⟨v', w', hr1, ?_⟩
 -- blocks
 have hndn : (b0s ++ b1s).Nodup := by rw [<- ebs]; exact hr.nodup n 1
 obtain ⟨_, hnd1s, hnd01⟩ := X15.1 hndn;have hmem_s : ∀ b, b ∈ b1s -> b ∈ bs n 1 := fun b hb => by grind
 have hmem_v : ∀ b, v.ownBlock = some b -> b ∈ bs n 1 := fun b hb => by grind
 have hsize : w.heap.size <= w'.heap.size := hgrow.size;have hvs : ∀ b, v'.ownBlock = some b -> b ∉ b1s := by
  intro b hb hm1;rcases hwhere with hw | hw
  ·grind
  ·rw [hw] at hb;have : b = w.heap.size := by simp_all
   have h2 : b < w.heap.size := (hr.own _ _ _ (hmem_s b hm1)).2;omega
 let b1 : List Nat := if lvR = .dp then b1s ++ b1x else []
 have hb1x : ∀ b ∈ b1x, m ≠ n /\ b ∈ bs m 1 := by grind
 have hvx : ∀ b, v'.ownBlock = some b -> b ∉ b1x := by
  intro b hb hm1;obtain ⟨hmn, hbm⟩ := hb1x b hm1;rcases hwhere with hw | hw
  ·rw [hw] at hb;exact hmn (hr.disj _ _ _ _ _ hbm (hmem_v b hb)).1
  ·rw [hw] at hb;have : b = w.heap.size := by grind
   have h2 : b < w.heap.size := (hr.own _ _ _ hbm).2;omega
 have hkeepb : ∀ b, b < w.heap.size -> v.ownBlock ≠ some b -> w'.heap[b]? = w.heap[b]? := fun b hb hne => hgrow.block b hb (fun e => hne e.symm);have hvb1s : ∀ b ∈ b1s, v.ownBlock ≠ some b := fun b hb e => hnd01 b (by grind) b hb rfl;have hvb1x : ∀ b ∈ b1x, v.ownBlock ≠ some b := fun b hb e => (hb1x b hb).1 (hr.disj _ _ _ _ _ (hb1x b hb).2 (hmem_v b e)).1;have hfresh : ∀ b, w.heap.size <= b -> ∀ r l, b ∉ bs r l := fun b hb r l hm' => by have : b < w.heap.size := (hr.own _ _ _ hm').2; omega
 have hb1s_own : ∀ b ∈ b1s, c.mine b /\ b < w.heap.size := fun b hb => hr.own _ _ _ (hmem_s b hb);have hb1x_own : ∀ b ∈ b1x, c.mine b /\ b < w.heap.size := fun b hb => hr.own _ _ _ (hb1x b hb).2;have hsx : ∀ b ∈ b1s, b ∉ b1x := fun b h1 h2 => (hb1x b h2).1 (hr.disj _ _ _ _ _ (hb1x b h2).2 (hmem_s b h1)).1;have hxnd : b1x.Nodup := by grind
 have hmem1 : ∀ b ∈ b1, b ∈ b1s \/ b ∈ b1x := fun b hb => by grind
 have hvmem : ∀ b, v'.ownBlock = some b -> b < w'.heap.size := fun b hb => (Y1v hown' b hb).2;refine RP.reformAt hlen hr hno hn hm ⟨by simp [AV.refs, Leaf.refs], by simp [AV.ptrs]⟩ ?_ ?_ [v'] (fun l => if l = 1 then v'.ownBlock.toList ++ b1 else []) ?_ ?_ ?_ ?_
 ·exact ⟨hgrow.os, hgrow.tape, hgrow.output, hgrow.size, fun k hk => hgrow.block k (by have := hr.base; show k < w.heap.size; exact X1e hk this) (fun e => by
   have := (hr.own _ _ _ (hmem_v k e.symm)).1.1;omega)⟩
 ·grind
 ·grind
 ·grind
 ·grind
 ·intro s' hk;have ebs' : s'.bs n = fun l => if l = 1 then v'.ownBlock.toList ++ b1 else [] := Y0 _ _ _
  have ebs1 : s'.bs n 1 = v'.ownBlock.toList ++ b1 := by rw [ebs']; rfl
  have ecs : s'.cs n = [v'] := Y0 _ _ _;have hother : ∀ r, r ≠ n -> ∀ l b, b ∈ s'.bs r l -> r ≠ m /\ b ∈ bs r l := by
   intro r hrn l b hb;have e : s'.bs r = upd bs m (fun _ => []) r := Y2 _ _ hrn;rw [e] at hb;by_cases hrm : r = m
   ·subst hrm; rw [Y0] at hb; simp at hb
   ·rw [Y2 _ _ hrm] at hb; exact ⟨hrm, hb⟩
  have hRoS : ∀ b, RoS c (SS env ps tmps vs w cs bs) b -> b < w.heap.size -> RoS c s' b /\ w'.heap[b]? = w.heap[b]? := hk
  -- when the elements are no longer owned, they may be read
  have hfree : lvR ≠ .dp -> ∀ b, b ∈ b1s \/ b ∈ b1x -> RoS c s' b := by
   intro hnd' b hb;refine ⟨fun r l hmem => ?_, .inr (hb.elim (fun h => (hb1s_own b h).1) (fun h => (hb1x_own b h).1))⟩;by_cases hrn : r = n
   ·subst hrn;rw [ebs'] at hmem;by_cases hl : l = 1
    ·grind
    ·grind
   ·obtain ⟨hrm, hmem⟩ := hother r hrn l b hmem;rcases hb with hb | hb
    ·exact hrn (hr.disj _ _ _ _ _ hmem (hmem_s b hb)).1
    ·exact hrm (hr.disj _ _ _ _ _ hmem (hb1x b hb).2).1
  refine ⟨⟨ecs, by rw [ebs']; rfl⟩, by rw [ecs]; rfl, fun l hl => ?_, ?_⟩
  ·rw [ebs'];simp at hl;exact X2 (by omega)
  ·intro l lf u hl hu;rw [ecs] at hu;have hl0 : l = 0 := by grind
   subst hl0;obtain rfl : lf = ⟨.slice te.id te.ty, ss ++ xs, .at_ lvR⟩ := by simpa [leafAt] using hl.symm
   obtain rfl : u = v' := by grind
   have goal : Rep (RoS c s') w' (.slice te.id te.ty) lvR [u] (ss ++ xs) (s'.bs n 1) := by
    have hrow' : ∀ (L : Lvl), L ≠ .ro -> RowRep (RoS c s') w' te.id te.ty.sz L u (ss ++ xs).length (cls ++ clx) u.ownBlock.toList := by
     intro L hL;rw [Xk];cases L with
     | ro => exact absurd rfl hL
     | sh => exact ⟨rfl, hown'⟩
     | dp => exact ⟨rfl, hown'⟩
     | pn _ => exact ⟨rfl, hown'⟩
    refine ⟨u, cls ++ clx, u.ownBlock.toList, b1, rfl, ebs1, ?_, hrow' lvR hR⟩;by_cases hd : lvR = .dp
    ·have hb1 : b1 = b1s ++ b1x := X4 hd;obtain ⟨hlvd, hxd⟩ := hdp hd;rw [hb1, hd];refine El.append ?_ ?_
     ·rw [hlvd] at hels;exact El.imp (fun c' x' b' hb' h' => Rep.dpS (S := RoS c (SS env ps tmps vs w cs bs)) (Rep.move (fun _ _ _ => by contradiction) (fun b hb => hkeepb b (hb1s_own b (hb' b hb)).2 (hvb1s b (hb' b hb))) (Rep.dpS (S' := fun _ => False) h'))) hels
     ·rcases hxel with ⟨hf, hbx, hel⟩ | ⟨hmn, hbx, _, hel⟩
      ·rw [hbx];refine El.bare ?_ hel; intro _ _ _ h'; exact (Rep.flat hf h').2
      ·rcases hxd with hf | hlx
       ·have : b1x = [] := El.noB (fun c' x' b' h' => (Rep.flat (S' := fun _ => False) (w' := w) (m' := .ro) hf h').1) hel;rw [this];refine El.bare ?_ hel; intro _ _ _ h'; exact (Rep.flat hf h').2
       ·rw [hlx] at hel;exact El.imp (fun c' x' b' hb' h' => Rep.dpS (S := RoS c (SS env ps tmps vs w cs bs)) (Rep.move (fun _ _ _ => by contradiction) (fun b hb => hkeepb b (hb1x_own b (hb' b hb)).2 (hvb1x b (hb' b hb))) (Rep.dpS (S' := fun _ => False) h'))) hel
    ·have hb1 : b1 = [] := X2 hd;have hsub : lvR.sub = .ro := by rcases hR0 with rfl | rfl; rfl; exact absurd rfl hd
     rw [hb1, hsub];have conv : ∀ {L : Lvl} {cl : List Value} {l : List te.ty.D} {B : List Nat}, (∀ b ∈ B, (b ∈ b1s \/ b ∈ b1x) /\ b < w.heap.size /\ v.ownBlock ≠ some b) -> El (Rep (RoS c (SS env ps tmps vs w cs bs)) w te.ty L) te.ty.sz cl l B -> El (Rep (RoS c s') w' te.ty .ro) te.ty.sz cl l [] := by
      intro L cl l B hB hel;refine El.bareW (bs := B) (fun c' x' b' hb' h' => ?_) (fun k hk => hk) hel;refine Rep.move (S := fun b => RoS c (SS env ps tmps vs w cs bs) b \/ b ∈ b') (fun b hb hlt => ?_) (by simp) h'.ro;rcases hb with hb | hb
      ·grind
      ·grind
     refine El.append (bs := []) (bs' := []) (conv (fun b hb => ⟨.inl hb, (hb1s_own b hb).2, hvb1s b hb⟩) hels) ?_;rcases hxel with ⟨hf, hbx, hel⟩ | ⟨hmn, hbx, _, hel⟩
     ·refine El.bare ?_ hel; intro _ _ _ h'; exact (Rep.flat hf h').2
     ·exact conv (fun b hb => ⟨.inr hb, (hb1x_own b hb).2, hvb1x b hb⟩) hel
   rcases hR0 with rfl | rfl
   ·exact LeafRel.of_rep trivial goal
   ·exact LeafRel.of_rep trivial goal
end
section
variable {P : Program} {o : Oper} {a : Act} {w : World} {R : Type} {K : Env -> Option R} {r : R} {next : Act -> World -> Prop} {Q : Exit -> Act -> World -> Prop} {c : Cx} {d : Nat} {T : Tab} {env : Env}
theorem Settled.upd (hs : ∀ r, Settled (ps r)) (n : Nat) (h : Settled av) : ∀ r, Settled (upd ps n av r) := by
 intro r;unfold FP.upd;split
 ·exact h
 ·exact hs r
theorem Y5k (h : RP c env tmps w ps vs) (hs : ∀ r, Settled (ps r)) {ty : Ty} {s : Operand} {env' : Env} (hg : grabS ty env s = some (env', av)) (hn : env.length <= n) (hp : ps n = .undef) :
  env'.length = env.length /\ RP c env' tmps w (upd ps n av) (upd vs n (evT tmps s)) := by
 unfold grabS at hg;split at hg
 ·split at hg
  ·rename_i ts x0 t x r j hk;split at hg
   ·rename_i lp hlp;split at hg
    ·simp at hg
    ·rename_i lv hne hm;simp at hg;obtain ⟨rfl, rfl⟩ := hg;refine ⟨by rw [Y5]; unfold killPlace; rw [Y7], ?_⟩;exact h.grabPlace hs hk hlp hm (fun e => hne (e ▸ rfl)) hn hp
    ·simp at hg
   ·simp at hg
  ·exact Y17 h hs hg hn hp
 ·exact Y17 h hs hg hn hp
theorem Y7d (hT : TabOk P T) {t : TypeId} {s x : Operand} {cl : Call} {ss xs : List te.ty.D} {lv lx lvR : Lvl} {N m : Nat} (hop : o.op = .call cl) (hc : cl.callee = .builtin .append) (hargs : cl.args.toList = [s, x]) (htys : cl.argTypes.toList = [t, t]) (hdst : o.dst = some d)
  (ht : elemAt T t = some te) (h : RP c env a.tmps w ps vs) (hN : env.length = N) (hd : d < env.length) (hpn : ps N = .con .val [⟨.slice te.id te.ty, ss, .at_ lv⟩]) (hvn : vs N = evT a.tmps s) (hlv : lv ≠ .ro) (hm : N <= m)
  (hps : ∀ r, r ≠ N -> r ≠ m -> ps r = .undef)
  (hx : (te.ty.flatB = true /\ m = N /\ ∃ S, Rep S w (.slice te.id te.ty) .ro [evT a.tmps x] xs []) \/ (m ≠ N /\ ps m = .con .val [⟨.slice te.id te.ty, xs, .at_ lx⟩] /\ vs m = evT a.tmps x))
  (hR : lvR = .sh \/ lvR = .dp) (hdp : lvR = .dp -> lv = .dp /\ (te.ty.flatB = true \/ lx = .dp)) {K : Env -> Option R} (hK : appendTo te lvR ss xs (fun l => K (setD (some d) env (.con .val [l]))) = some r) (hn : Next c a K r N next) : o.wp P a w next Q := by
 unfold appendTo at hK;have hb : (ss.length + xs.length) * te.bytes <= 140737488355328 := by grind
 rw [decide_eq_true hb] at hK
 replace hK : K (setD (some d) env (.con .val [⟨.slice te.id te.ty, ss ++ xs, .at_ lvR⟩])) = some r := hK
 have hargs' : cl.args = #[s, x] := by grind
 have htys' : cl.argTypes = #[t, t] := by grind
 obtain ⟨v', w', h1, h2⟩ := h.appended hT ht o.type (n := N) (m := m) (by omega) (by omega) hpn hlv hx hR hdp hb;have e : upd (upd ps m .undef) N (.con .val [⟨.slice te.id te.ty, ss ++ xs, .at_ lvR⟩]) = upd noP N (.con .val [⟨.slice te.id te.ty, ss ++ xs, .at_ lvR⟩]) := by
  funext r;simp [upd];split
  ·rfl
  ·split
   ·rfl
   ·rw [hps r (by assumption) (by assumption)]; rfl
 rw [e] at h2;rw [<- hN] at h2;refine fin hdst (v := v') (w' := w') ?_ hd hN h2 (by rw [hN]; exact Y0 _ _ _) hK hn;rw [hvn] at h1;simp [execOp, hop, resolve, hc, hargs', htys', invoke, builtin, Y6, h1]
theorem Y7e (hT : TabOk P T) {t : TypeId} {s x : Operand} {cl : Call} {xs : List te.ty.D} {lx : Lvl} {N : Nat} {deep : Bool} (hop : o.op = .call cl) (hc : cl.callee = .builtin .append) (hargs : cl.args.toList = [s, x]) (htys : cl.argTypes.toList = [t, t]) (hdst : o.dst = some d)
  (ht : elemAt T t = some te) (h : RP c env a.tmps w ps vs) (hN : env.length = N) (hd : d < env.length) 
  (hx : (te.ty.flatB = true /\ (∀ r, ps r = .undef) /\ ∃ S, Rep S w (.slice te.id te.ty) .ro [evT a.tmps x] xs []) \/ ((∀ r, r ≠ N + 1 -> ps r = .undef) /\ ps (N + 1) = .con .val [⟨.slice te.id te.ty, xs, .at_ lx⟩] /\ vs (N + 1) = evT a.tmps x))
  (hdeep : deep = true -> te.ty.flatB = true \/ lx = .dp) {K : Env -> Option R} (hK : appendS (some d) te s xs deep env K = some r) (hn : Next c a K r N next) : o.wp P a w next Q := by
 have hs : ∀ r, Settled (ps r) := by
  rcases hx with ⟨_, h0, _⟩ | ⟨h0, h1, _⟩
  ·exact fun r => .inl (h0 r)
  ·intro r;by_cases hr : r = N + 1
   ·subst hr; exact .inr ⟨_, _, h1, by simp [Mode.settled]⟩
   ·exact .inl (h0 r hr)
 have hp : ps N = .undef := by grind
 unfold appendS at hK;split at hK
 ·rename_i env2 l hg;obtain ⟨hl, h1⟩ := Y5k h hs hg (by omega) hp;split at hK
  ·rename_i ss has;have hle := Leaf.as_eq has;have main : ∀ lv lvR : Lvl, l.m = .at_ lv -> lv ≠ .ro -> (lvR = .sh \/ lvR = .dp) -> (lvR = .dp -> lv = .dp /\ deep = true) -> appendTo te lvR ss xs (fun l => K (setD (some d) env2 (.con .val [l]))) = some r -> o.wp P a w next Q := by
    intro lv lvR hm hlv hlvR hd2 hK;rw [hm] at hle;rw [hle] at h1;rcases hx with ⟨hf, h0, S, hS⟩ | ⟨h0, h2, h3⟩
    ·refine Y7d hT hop hc hargs htys hdst ht h1 (by omega) (by omega) (Y0 _ _ _) (by rw [Y0]) hlv (m := N) (by omega) (fun r hr _ => by rw [Y2 _ _ hr]; exact h0 r) (.inl ⟨hf, rfl, S, hS⟩) (lx := lx) hlvR (fun e => ⟨(hd2 e).1, .inl hf⟩) hK hn
    ·refine Y7d hT hop hc hargs htys hdst ht h1 (by omega) (by omega) (Y0 _ _ _) (by rw [Y0]) hlv (m := N + 1) (by omega) (fun r hr hr' => by rw [Y2 _ _ hr]; exact h0 r hr') (.inr ⟨by omega, by rw [Y2 _ _ (by omega)]; exact h2, by rw [Y2 _ _ (by omega)]; exact h3⟩) hlvR (fun e => ⟨(hd2 e).1, hdeep (hd2 e).2⟩) hK hn
   split at hK
   ·grind
   ·grind
   ·simp at hK
  ·simp at hK
 ·simp at hK
theorem Ycy (hT : TabOk P T) {t : TypeId} {s x : Operand} {cl : Call} (hop : o.op = .call cl) (hc : cl.callee = .builtin .append) (hargs : cl.args.toList = [s, x]) (htys : cl.argTypes.toList = [t, t]) (hdst : o.dst = some d)
  (hr : RE c env a.tmps w) (hd : d < env.length) {K : Env -> Option R} (hK : append1 T (some d) t s x env K = some r) (hn : Next c a K r env.length next) : o.wp P a w next Q := by
 unfold append1 at hK;split at hK
 ·simp at hK
 ·rename_i te ht;obtain ⟨vs, h⟩ := hr;split at hK
  ·rename_i hf;split at hK
   ·rename_i lx hrd;split at hK
    ·rename_i xs has;split at hK
     ·rename_i hl;have hS : ∃ S, Rep S w (.slice te.id te.ty) .ro [evT a.tmps x] xs [] := by
       obtain ⟨cs, bs, h1, _⟩ := h.rel;obtain ⟨cells, hv⟩ := Yl h.len h1 (some (.slice te.id te.ty)) x;rw [hrd] at hv;obtain ⟨S, hS⟩ := Y2y hv hl;rw [Leaf.as_eq has] at hS;exact ⟨S, hS⟩
      exact Y7e hT hop hc hargs htys hdst ht h rfl hd (.inl ⟨hf, fun _ => rfl, hS⟩) (lx := .ro) (fun _ => .inl hf) hK hn
     ·simp at hK
    ·simp at hK
   ·simp at hK
  ·split at hK
   ·rename_i env1 lx hti;split at hK
    ·rename_i xs has;obtain ⟨hl, h1⟩ := Y17 h (fun _ => .inl rfl) hti (n := env.length + 1) (by omega) rfl;have hset := Yx hti lx (by simp);have hle := Leaf.as_eq has;cases hm : lx.m with
     | at_ lv =>
      rw [hm] at hle hK;rw [hle] at h1;refine Y7e hT hop hc hargs htys hdst ht h1 hl (by omega) (.inr ⟨fun r hr => by rw [Y2 _ _ hr]; rfl, Y0 _ _ _, by rw [Y0]⟩) (lx := lv) (fun h => .inr ?_) hK hn;simpa using h
     | bor _ _ _ => rw [hm] at hset; simp [Mode.settled] at hset
     | dead => rw [hm] at hset; simp [Mode.settled] at hset
    ·simp at hK
   ·simp at hK
end
theorem Y2l (hlen : env.length = tmps.size) (hr : Rel c (SS env ps tmps vs w cs bs)) (hn : env.length <= n) (hp : ps n = .con k ls) (hk : k.plain = true) (hs : ∀ l ∈ ls, l.m.settled = true) :
  cs n = (vs n).cells.toList /\ bs n 0 = [] /\ ls.length = (cs n).length /\ (∀ l, ls.length <= l -> bs n (l + 1) = []) /\ (∀ l lf u, ls[l]? = some lf -> (cs n)[l]? = some u -> ∃ lv, (lf.m = .at_ lv /\ lv.pinOk c u) /\ Rep (RoS c (SS env ps tmps vs w cs bs)) w lf.t lv [u] lf.x (bs n (l + 1))) := by
 have hav := hr.av n;have e1 : (SS env ps tmps vs w cs bs).env n = .con k ls := by show ovl env ps n = _; rw [Yt hn, hp]
 have e2 : (SS env ps tmps vs w cs bs).tm n = vs n := X2 (by omega);rw [e1, e2] at hav;obtain ⟨h1, h2, h3, h4⟩ := hav;have h5 : ∀ l lf u, ls[l]? = some lf -> (cs n)[l]? = some u -> ∃ lv, (lf.m = .at_ lv /\ lv.pinOk c u) /\ Rep (RoS c (SS env ps tmps vs w cs bs)) w lf.t lv [u] lf.x (bs n (l + 1)) := by
  intro l lf u hl hu;have h6 := h4 l lf u (by rw [Y1]; exact hl) hu;have := hs _ (X8 hl);obtain ⟨t, x, m⟩ := lf;cases m with
  | at_ lv => exact ⟨lv, ⟨rfl, h6.pin⟩, h6.rep⟩
  | bor _ _ _ => simp [Mode.settled] at this
  | dead => simp [Mode.settled] at this
 have hcs : (cs n) = (vs n).cells.toList /\ bs n 0 = [] := by
  cases k with
  | val =>
   obtain ⟨h7, h6⟩ := h1;refine ⟨?_, h6⟩;have h7' : cs n = [vs n] := h7;rw [h7'];have hl1 : ls.length = 1 := by rw [h2, h7]; rfl
   obtain ⟨lv, _, h8⟩ := h5 0 _ (vs n) (X1 (by omega)) (by rw [h7']; rfl);have hone : (vs n).oneCell' = true := Rep.one h8 _ (by simp);cases hv : vs n <;> first | rfl | (rw [hv] at hone; simp [Value.oneCell'] at hone)
  | agg =>
   obtain ⟨h7, h6⟩ := h1;refine ⟨?_, h6⟩;rw [h7];simp [Value.cells]
  | tup sh => simp [Kind.plain] at hk
  | box e => simp [Kind.plain] at hk
  | tupB i n sh => simp [Kind.plain] at hk
 exact ⟨hcs.1, hcs.2, h2, h3, h5⟩
theorem RP.pendLen (h : RP c env tmps w ps vs) (hn : env.length <= n) (hp : ps n = .con k ls) (hk : k.plain = true) (hs : ∀ l ∈ ls, l.m.settled = true) : (vs n).cells.toList.length = ls.length := by
 obtain ⟨hlen, cs, bs, hr, _⟩ := h;obtain ⟨h1, _, h2, _⟩ := Y2l hlen hr hn hp hk hs;rw [<- h1, h2]
theorem RP.merge (h : RP c env tmps w ps vs) {n m : Nat} (hn : env.length <= n) (hm : env.length <= m) (hnm : m ≠ n) {A O B N : List Leaf} {cA cO cB : List Value}
  (hpn : ps n = .con .agg (A ++ O ++ B)) (hpm : ps m = .con k N) (hk : k.plain = true) (hsn : ∀ l ∈ A ++ O ++ B, l.m.settled = true) (hsm : ∀ l ∈ N, l.m.settled = true)
  (hvn : vs n = .agg (cA ++ cO ++ cB).toArray) (hA : cA.length = A.length) (hO : cO.length = O.length) :
  RP c env tmps w (upd (upd ps m .undef) n (.con .agg (A ++ N ++ B))) (upd vs n (.agg (cA ++ (vs m).cells.toList ++ cB).toArray)) := by
 obtain ⟨hlen, cs, bs, hr, hno⟩ := h;obtain ⟨n1, n2, n3, n4, n5⟩ := Y2l hlen hr hn hpn rfl hsn;obtain ⟨m1, m2, m3, m4, m5⟩ := Y2l hlen hr hm hpm hk hsm;rw [hvn] at n1;have n1 : cs n = cA ++ cO ++ cB := by rw [n1]; simp [Value.cells]
 have hB : cB.length = B.length := by grind
 have hset : ∀ l ∈ A ++ N ++ B, l.m.settled = true := by grind
 rw [<- m1]
 let bd : Nat -> List Nat := fun l => if l <= A.length then bs n l else if l <= A.length + N.length then bs m (l - A.length) else bs n (l - N.length + O.length)
 have hbd : ∀ l b, b ∈ bd l -> (b ∈ bs n l /\ l <= A.length) \/ (b ∈ bs m (l - A.length) /\ A.length < l /\ l <= A.length + N.length) \/ (b ∈ bs n (l - N.length + O.length) /\ A.length + N.length < l) := by grind
 refine RP.reformAt hlen hr hno hn hm (Yc hset) (X1g _ _) (fun b _ _ => rfl) (cA ++ cs m ++ cB) bd ?_ ?_ ?_ ?_
 ·intro l b hb;rcases hbd l b hb with ⟨h1, _⟩ | ⟨h1, _⟩ | ⟨h1, _⟩
  ·exact ⟨(hr.own _ _ _ h1).2, .inr ⟨_, .inl h1⟩⟩
  ·exact ⟨(hr.own _ _ _ h1).2, .inr ⟨_, .inr h1⟩⟩
  ·exact ⟨(hr.own _ _ _ h1).2, .inr ⟨_, .inl h1⟩⟩
 ·intro l l' b hb hb';rcases hbd l b hb with ⟨h1, g1⟩ | ⟨h1, g1, g2⟩ | ⟨h1, g1⟩ <;> rcases hbd l' b hb' with ⟨h2, k1⟩ | ⟨h2, k1, k2⟩ | ⟨h2, k1⟩ <;> have := hr.disj _ _ _ _ _ h1 h2 <;> omega
 ·intro l;simp [bd];split
  ·exact hr.nodup _ _
  ·split
   ·exact hr.nodup _ _
   ·exact hr.nodup _ _
 ·intro s' hk';have ebs : s'.bs n = bd := Y0 _ _ _;have ecs : s'.cs n = cA ++ cs m ++ cB := Y0 _ _ _;have hkeep : ∀ b, RoS c (SS env ps tmps vs w cs bs) b -> b < w.heap.size -> RoS c s' b /\ w.heap[b]? = w.heap[b]? := hk';refine ⟨⟨by rw [ecs], by rw [ebs]; show bd 0 = []; simp [bd]; exact n2⟩, by rw [ecs]; simp only [Xk]; omega, fun l hl => ?_, fun l lf u hl hu => ?_⟩
  ·rw [ebs];simp at hl;simp [bd];rw [X2 (by omega), X2 (by omega)];have := n4 (l + 1 - N.length + O.length - 1) (by simp; omega)
   rwa [show l + 1 - N.length + O.length - 1 + 1 = l + 1 - N.length + O.length by omega] at this
  ·rw [ecs] at hu;rw [Y1] at hl;have go : ∀ bb lv, lf.m = .at_ lv /\ lv.pinOk c u -> Rep (RoS c (SS env ps tmps vs w cs bs)) w lf.t lv [u] lf.x bb -> bd (l + 1) = bb -> LeafRel c s' n l u lf := by
    intro bb lv ⟨hm', hpin⟩ hrep he;obtain ⟨t, x, m⟩ := lf;simp only at hm';subst hm';refine LeafRel.of_rep hpin ?_;rw [ebs, he];exact Rep.move hkeep (fun _ _ => rfl) hrep
   by_cases h1 : l < A.length
   ·rw [X7, Xp h1] at hl;rw [X7, Xp (by omega)] at hu;obtain ⟨lv, hm', hrep⟩ := n5 l lf u (by rw [X7, Xp h1]; exact hl) (by rw [n1, X7, Xp (by omega)]; exact hu);exact go _ lv hm' hrep (X4 (by omega))
   ·by_cases h2 : l < A.length + N.length
    ·grind
    ·rw [X7, Xd (by omega), Xd (by omega)] at hl;rw [X7, Xd (by omega), Xd (by omega), hA] at hu;obtain ⟨lv, hm', hrep⟩ := n5 (l - N.length + O.length) lf u (by rw [X7, Xd (by omega), Xd (by omega), <- hl]; congr 1; omega)
      (by rw [n1, X7, Xd (by omega), Xd (by omega), <- hu]; congr 1; omega)
     refine go _ lv hm' hrep ?_;simp [bd];rw [X2 (by omega), X2 (by omega)];congr 1;omega
theorem Y9m (off : Nat) : ∀ (v : List Value) (j : Nat) (cells : Array Value), off + j + v.length <= cells.size ->
  ((v.zipIdx j).foldl (fun (cs : Array Value) (p : Value × Nat) => cs.setIfInBounds (off + p.2) p.1) cells).toList = cells.toList.take (off + j) ++ v ++ cells.toList.drop (off + j + v.length)
 | [], j, cells, h => by simp
 | x :: v, j, cells, h => by
  simp at h;rw [List.zipIdx_cons, List.foldl_cons, Y9m off v (j + 1) _ (by simp; omega)];rw [Array.toList_setIfInBounds];have hl : off + j < cells.toList.length := by grind
  have e1 : (cells.toList.set (off + j) x).take (off + (j + 1)) = cells.toList.take (off + j) ++ [x] := by
   rw [List.take_set, show off + (j + 1) = off + j + 1 by omega, X27 hl, X22 _ _ (by simp; omega)];rw [Xm, X30 (by omega), Nat.sub_self];rfl
  have e2 : (cells.toList.set (off + j) x).drop (off + (j + 1) + v.length) = cells.toList.drop (off + j + (x :: v).length) := by
   rw [List.drop_set, X4 (by omega)];congr 1;simp;omega
  rw [e1, e2];simp
theorem Y8h {place : Nat -> Option (Nat × Nat)} {cells : Array Value} {i : Nat} {rest : List (Nat × Value)} {off sz : Nat} (hp : place i = some (off, sz)) (hv : v.cells.size = sz) (hb : off + sz <= cells.size) :
  Instr.fill place cells ((i, v) :: rest) = Instr.fill place (cells.toList.take off ++ v.cells.toList ++ cells.toList.drop (off + sz)).toArray rest := by
 rw [Instr.fill, hp];simp only;rw [X2 (by simp; omega)];congr 1;have := Y9m off v.cells.toList 0 cells (by grind);apply Array.toList_inj.1;rw [<- Array.foldl_toList, Array.toList_zipIdx, this];simp [hv]
theorem Y5l {α β : Type} (f : α -> Option β) : ∀ {l : List α} {r : List β}, l.mapM f = some r -> ∀ {i : Nat} {x : α}, l[i]? = some x -> ∃ y, f x = some y /\ r[i]? = some y
 | [], r, h, i, x, hx => by simp at hx
 | a :: l, r, h, i, x, hx => by
  simp at h;cases ha : f a with
  | none => rw [ha] at h; simp at h
  | some y =>
   cases hl : l.mapM f with
   | none => grind
   | some r' =>
    rw [ha, hl] at h;simp at h;subst h;cases i with
    | zero => grind
    | succ i => simp only [X1i] at hx ⊢; exact Y5l f hl hx
theorem TabOk.place (hT : TabOk P T) {t : TypeId} (ht : T.ty t = some τ) (ha : τ.isAgg = true) :
  ∃ (fs : Array Field) (pl : List (Nat × Nat)), P.underlying t = some (.struct fs) /\ fs.toList.mapM (fun f => (P.info? f.type).map fun i => (f.offset, i.size)) = some pl /\ ∀ f off τf, fieldAt T t f = some (off, τf) -> pl[f]? = some (off, τf.sz) := by
 obtain ⟨e, h1, rfl⟩ := Tab.ty_te ht;obtain ⟨h2, rfl, hfn⟩ := Tab.te_mem h1;obtain ⟨fs, pl, h3, h4⟩ := (hT e h2).places hfn ha;refine ⟨fs, pl, h3, h4, fun f off τf hf => ?_⟩;obtain ⟨fs', fd, k1, k2, k3, k4, _⟩ := TabOk.field hT hf;rw [h3] at k1;simp [TypeDesc.struct.injEq] at k1;subst k1;obtain ⟨i, k5, k6, _⟩ := TabOk.info hT k4;obtain ⟨y, k7, k8⟩ := Y5l _ h4 (i := f) (x := fd) (by simpa using k2);rw [k8];rw [k5] at k7;simp at k7;rw [<- k7, k3, k6]
section
variable {P : Program} {o : Oper} {a : Act} {w : World} {R : Type} {K : Env -> Option R} {r : R} {next : Act -> World -> Prop} {Q : Exit -> Act -> World -> Prop} {c : Cx} {d : Nat} {T : Tab}
theorem Y9n {α : Type} (l : List α) (off k : Nat) (h : off + k <= l.length) : l = l.take off ++ (l.drop off).take k ++ l.drop (off + k) := by
 conv => lhs; rw [<- X2y off l, <- X2y k (l.drop off), List.drop_drop]
 rw [X7]
theorem Y8i {t : TypeId} {tmps : Array Value} {place : Nat -> Option (Nat × Nat)} (hpl : ∀ f off τf, fieldAt T t f = some (off, τf) -> place f = some (off, τf.sz)) {N : Nat} : ∀ (parts : List (Nat × Operand)) {env env' : Env} {ls ls' : List Leaf} {ps : Nat -> AV} {vs : Nat -> Value} {cells : Array Value},
  buildParts T t env ls parts = some (env', ls') -> RP c env tmps w ps vs -> env.length = N -> (∀ r, r ≠ N -> ps r = .undef) -> ps N = .con .agg ls -> (∀ l ∈ ls, l.m.settled = true) -> vs N = .agg cells ->
  ∃ (cells' : Array Value) (vs' : Nat -> Value), Instr.fill place cells (parts.map fun p => (p.1, evT tmps p.2)) = some cells' /\ env'.length = N /\ RP c env' tmps w (upd noP N (.con .agg ls')) vs' /\ vs' N = .agg cells'
 | [], env, env', ls, ls', ps, vs, cells, hb, h, hN, hps, hpn, hs, hv => by
  simp [buildParts] at hb;obtain ⟨rfl, rfl⟩ := hb;refine ⟨cells, vs, rfl, hN, ?_, hv⟩;have e : ps = upd noP N (.con .agg ls) := by
   funext r;simp [upd];split
   ·grind
   ·rename_i hr; rw [hps r hr]; rfl
  rw [<- e];exact h
 | (f, x) :: parts, env, env', ls, ls', ps, vs, cells, hb, h, hN, hps, hpn, hs, hv => by
  simp [buildParts] at hb;cases hf : fieldAt T t f with
  | none => grind
  | some q =>
   obtain ⟨off, τf⟩ := q;rw [hf] at hb;simp only at hb;cases hta : takeAs τf env x with
   | none => grind
   | some q =>
    obtain ⟨env1, l⟩ := q;rw [hta] at hb;simp only at hb;split at hb
    ·rename_i hle;obtain ⟨hti, hty⟩ := Y23 hta;have hll := Y1b hty;have hsets : ∀ r, Settled (ps r) := fun r => by
      by_cases hr : r = N
      ·subst hr; exact .inr ⟨_, _, hpn, hs⟩
      ·exact .inl (hps r hr)
     obtain ⟨hl1, h1⟩ := Y17 h hsets hti (n := N + 1) (by omega) (hps _ (by omega));have hset1 := Yx hti;have hcl : cells.toList.length = ls.length := by
      have := h.pendLen (n := N) (by omega) hpn rfl hs;rw [hv] at this;exact this
     have hxl : (evT tmps x).cells.toList.length = l.length := by
      have := h1.pendLen (n := N + 1) (by omega) (Y0 _ _ _) (Y1k τf) hset1;rw [Y0] at this;exact this
     have e1 := Y9n ls off l.length hle;have e2 := Y9n cells.toList off l.length (by omega);have h2 := h1.merge (n := N) (m := N + 1) (by omega) (by omega) (by omega) (A := ls.take off) (O := (ls.drop off).take l.length) (B := ls.drop (off + l.length)) (N := l) (cA := cells.toList.take off) (cO := (cells.toList.drop off).take l.length) (cB := cells.toList.drop (off + l.length))
      (by rw [Y2 _ _ (by omega), <- e1]; exact hpn) (Y0 _ _ _) (Y1k τf) (by rw [<- e1]; exact hs) hset1 (by rw [Y2 _ _ (by omega), <- e2, X1c]; exact hv)
      (by simp only [Xm]; omega) (by grind)
     rw [Y0] at h2;rw [Y41 _ _ _ hle] at hb;obtain ⟨cells', vs', k1, k2, k3, k4⟩ := Y8i hpl parts hb h2 (by omega) (fun r hr => by
       rw [Y2 _ _ hr];by_cases hr1 : r = N + 1
       ·subst hr1; rw [Y0]
       ·rw [Y2 _ _ hr1, Y2 _ _ hr1]; exact hps r hr) (Y0 _ _ _) (fun l' hl' => by
       simp only [X5] at hl';rcases hl' with (hl' | hl') | hl'
       ·grind
       ·grind
       ·grind) (Y0 _ _ _)
     refine ⟨cells', vs', ?_, k2, k3, k4⟩;rw [X1y, Y8h (hpl f off τf hf) (by rw [<- X17, hxl, hll]) (by grind), <- hll];exact k1
    ·simp at hb
theorem Ydv (hT : TabOk P T) {t : TypeId} {parts : Array (Nat × Operand)} {env env' : Env} (hop : o.op = .build t parts) (hdst : o.dst = some d) (hr : RE c env a.tmps w) (hd : d < env.length) (ht : T.ty t = some τ) (ha : τ.isAgg = true) (hb : buildParts T t env (zeros τ) parts.toList = some (env', ls))
  (hK : K (setD (some d) env' (.con .agg ls)) = some r) (hn : Next c a K r env.length next) : o.wp P a w next Q := by
 obtain ⟨vs, h⟩ := hr;obtain ⟨fs, pl, p1, p2, p3⟩ := TabOk.place hT ht ha;obtain ⟨i, i1, _, i2⟩ := TabOk.info hT ht;have h0 := h.addVal (n := env.length) (Xi _) rfl (av := .con .agg (zeros τ)) (v := zeroVal τ) (fun cs bs hrel => by
  obtain ⟨z1, z2, z3⟩ := Y3k (RoS c (SS env noP a.tmps vs w cs bs)) w τ;refine ⟨zeroCells τ, ⟨by simp [zeroVal, ha], rfl⟩, z1, fun l lf u hl hu => ?_⟩;obtain ⟨m, k1, k2⟩ := z3 l lf u (by rw [<- Y1]; exact hl) hu;obtain ⟨t', x', m'⟩ := lf;simp only at k1;have hmode := Y21 (lv := .dp) τ τ.dflt 0 _ (Yb hl);subst k1;exact ⟨k2, Y9d rfl hmode trivial⟩) (by
   have := Yc (k := .agg) (Y3k (fun _ => True) w τ).2.1;rw [this.1, this.2];exact ⟨by simp, by simp⟩)
 obtain ⟨cells', vs', k1, k2, k3, k4⟩ := Y8i (c := c) (w := w) (T := T) (t := t) (tmps := a.tmps) (place := fun x => pl[x]?) p3 (N := env.length) parts.toList hb h0 rfl (fun r hr => Y2 _ _ hr) (Y0 _ _ _) (Y3k (fun _ => True) w τ).2.1 (cells := (zeroVal τ).cells) (by rw [Y0]; simp [zeroVal, ha, Value.cells]);have hbuilt : P.built t (parts.map fun p => (p.1, a.eval p.2)).toList = some cells' := by
  unfold Program.built;rw [i1, p1];simp only [i2, p2];rw [Array.toList_map, Y6];simpa using k1
 rw [<- k2] at k3 k4;refine fin hdst (v := .agg cells') (w' := w) ?_ (by omega) k2 k3 k4 hK hn;simp [execOp, hop];have := run_build (P := P) w t (parts.map fun p => (p.1, a.eval p.2)) cells' hbuilt;simp [this]
end
theorem Y5m (F : Nat -> List Nat) (k a b : Nat) : (List.range' k (a + b)).flatMap F = (List.range' k a).flatMap F ++ (List.range' (k + a) b).flatMap F := by grind
theorem Y32 {S : Nat -> Prop} {w : World} {L : Lvl} {F : Nat -> List Nat} : ∀ (t : Ty) {ls : List Leaf} {x : t.D} {rest : List Leaf} {cells : List Value} {k : Nat}, asm t ls = some (x, rest) -> ls.length = cells.length ->
  (∀ (l : Nat) (lf : Leaf) (u : Value), ls[l]? = some lf -> cells[l]? = some u -> Rep S w lf.t L [u] lf.x (F (k + l))) ->
  ∃ c0 c1, cells = c0 ++ c1 /\ c0.length = t.sz /\ rest.length = c1.length /\ Rep S w t L c0 x ((List.range' k t.sz).flatMap F) /\ (∀ (l : Nat) (lf : Leaf) (u : Value), rest[l]? = some lf -> c1[l]? = some u -> Rep S w lf.t L [u] lf.x (F (k + t.sz + l)))
 | .unit, ls, x, rest, cells, k, h, hl, hr => by
  simp [asm] at h;obtain ⟨_, rfl⟩ := h;exact ⟨[], cells, rfl, rfl, hl, ⟨rfl, rfl⟩, hr⟩
 | .pair a b, ls, x, rest, cells, k, h, hl, hr => by
  simp [asm] at h;cases ha : asm a ls with
  | none => rw [ha] at h; simp at h
  | some q =>
   obtain ⟨xa, ra⟩ := q;rw [ha] at h;simp only at h;cases hb : asm b ra with
   | none => rw [hb] at h; simp at h
   | some q =>
    obtain ⟨xb, rb⟩ := q;rw [hb] at h;simp at h;obtain ⟨rfl, rfl⟩ := h;obtain ⟨c0, c1, rfl, z1, l1, k1, m1⟩ := Y32 a ha hl hr;obtain ⟨c2, c3, rfl, z2, l2, k2, m2⟩ := Y32 b hb l1 m1;exact ⟨c0 ++ c2, c3, by rw [X7], by rw [Xk, z1, z2]; rfl, l2, ⟨c0, c2, _, _, rfl, Y5m F k a.sz b.sz, k1, k2⟩, fun l lf u h1 h2 => by have := m2 l lf u h1 h2; rwa [X2a k] at this⟩
 | .int kk, ls, x, rest, cells, k, h, hl, hr => by
  cases ls with
  | nil => simp [asm] at h
  | cons l ls =>
   simp [asm] at h;cases hx : l.as (.int kk) with
   | none => rw [hx] at h; simp at h
   | some y =>
    rw [hx] at h;simp at h;obtain ⟨rfl, rfl⟩ := h;cases cells with
    | nil => simp at hl
    | cons u cells =>
     have := hr 0 l u rfl rfl;rw [Leaf.as_eq hx] at this;exact ⟨[u], cells, rfl, rfl, by simpa using hl, by simpa [Ty.sz] using this, fun l' lf u' h1 h2 => by have := hr (l' + 1) lf u' h1 h2; rwa [show k + (l' + 1) = k + Ty.sz (.int kk) + l' by simp [Ty.sz]; omega] at this⟩
 | .bool, ls, x, rest, cells, k, h, hl, hr => by
  cases ls with
  | nil => simp [asm] at h
  | cons l ls =>
   simp [asm] at h;cases hx : l.as .bool with
   | none => rw [hx] at h; simp at h
   | some y =>
    rw [hx] at h;simp at h;obtain ⟨rfl, rfl⟩ := h;cases cells with
    | nil => simp at hl
    | cons u cells =>
     have := hr 0 l u rfl rfl;rw [Leaf.as_eq hx] at this;exact ⟨[u], cells, rfl, rfl, by simpa using hl, by simpa [Ty.sz] using this, fun l' lf u' h1 h2 => by have := hr (l' + 1) lf u' h1 h2; rwa [show k + (l' + 1) = k + Ty.sz .bool + l' by simp [Ty.sz]; omega] at this⟩
 | .str, ls, x, rest, cells, k, h, hl, hr => by
  cases ls with
  | nil => simp [asm] at h
  | cons l ls =>
   simp [asm] at h;cases hx : l.as .str with
   | none => rw [hx] at h; simp at h
   | some y =>
    rw [hx] at h;simp at h;obtain ⟨rfl, rfl⟩ := h;cases cells with
    | nil => simp at hl
    | cons u cells =>
     have := hr 0 l u rfl rfl;rw [Leaf.as_eq hx] at this;exact ⟨[u], cells, rfl, rfl, by simpa using hl, by simpa [Ty.sz] using this, fun l' lf u' h1 h2 => by have := hr (l' + 1) lf u' h1 h2; rwa [show k + (l' + 1) = k + Ty.sz .str + l' by simp [Ty.sz]; omega] at this⟩
 | .slice e τ, ls, x, rest, cells, k, h, hl, hr => by
  cases ls with
  | nil => simp [asm] at h
  | cons l ls =>
   simp [asm] at h;cases hx : l.as (.slice e τ) with
   | none => rw [hx] at h; simp at h
   | some y =>
    rw [hx] at h;simp at h;obtain ⟨rfl, rfl⟩ := h;cases cells with
    | nil => simp at hl
    | cons u cells =>
     have := hr 0 l u rfl rfl;rw [Leaf.as_eq hx] at this;exact ⟨[u], cells, rfl, rfl, by simpa using hl, by simpa [Ty.sz] using this, fun l' lf u' h1 h2 => by have := hr (l' + 1) lf u' h1 h2; rwa [show k + (l' + 1) = k + Ty.sz (.slice e τ) + l' by simp [Ty.sz]; omega] at this⟩
def Asms (t : Ty) : List t.D -> List Leaf -> Bool -> Prop
 | [], L, d => L = [] /\ d = true
 | x :: xs, L, d => ∃ l L' d', L = l ++ L' /\ asm t l = some (x, []) /\ d = (allDeep l && d') /\ Asms t xs L' d'
theorem Asms.deep : ∀ {xs : List t.D} {L : List Leaf} {d : Bool}, Asms t xs L d -> d = true -> allDeep L = true
 | [], L, d, ⟨h, _⟩, _ => by rw [h]; rfl
 | x :: xs, L, d, ⟨l, L', d', h1, _, h3, h4⟩, hd => by
  rw [h3] at hd;simp at hd;rw [h1];simp only [allDeep, List.all_append, X9];exact ⟨hd.1, Asms.deep h4 hd.2⟩
theorem Asms.el {S : Nat -> Prop} {w : World} {Lv : Lvl} {F : Nat -> List Nat} {t : Ty} : ∀ {xs : List t.D} {L : List Leaf} {d : Bool} {cells : List Value} {k : Nat}, Asms t xs L d -> L.length = cells.length ->
  (∀ (l : Nat) (lf : Leaf) (u : Value), L[l]? = some lf -> cells[l]? = some u -> Rep S w lf.t Lv [u] lf.x (F (k + l))) -> El (Rep S w t Lv) t.sz cells xs ((List.range' k L.length).flatMap F)
 | [], L, d, cells, k, ⟨h, _⟩, hl, hr => by
  subst h;exact ⟨Xn.1 hl.symm, rfl⟩
 | x :: xs, L, d, cells, k, ⟨l, L', d', h1, h2, h3, h4⟩, hl, hr => by
  subst h1;rw [Xk] at hl;obtain ⟨c0, c1, e1, e2, e3, e4, _⟩ := Y32 (S := S) (w := w) (L := Lv) (F := F) t (cells := cells.take l.length) (k := k) h2 (by rw [Xm]; omega) (fun j lf u hj hu => by grind);have hc1 : c1 = [] := Xn.1 e3.symm;subst hc1;rw [Xf] at e1;have hlz : l.length = t.sz := by grind
  refine ⟨c0, cells.drop l.length, _, _, by rw [<- e1, X2y], e2, by rw [Xk, hlz]; exact Y5m F k t.sz L'.length, e4, ?_⟩;refine Asms.el h4 (by rw [X12]; omega) (fun j lf u hj hu => ?_);rw [X1l] at hu;have := hr (l.length + j) lf u (by rw [Xd (by omega)]; rw [show l.length + j - l.length = j by omega]; exact hj) hu
  rwa [hlz, <- X2a] at this
theorem Y2d {F : Nat -> List Nat} (h1 : ∀ l, (F l).Nodup) (h2 : ∀ l l' b, b ∈ F l -> b ∈ F l' -> l = l') : ∀ m k : Nat, ((List.range' k m).flatMap F).Nodup
 | 0, _ => X16
 | m + 1, k => by
  rw [List.range'_succ, X1t];refine X15.2 ⟨h1 _, Y2d h1 h2 m (k + 1), fun a ha b hb e => ?_⟩;subst e;simp at hb;obtain ⟨j, hj, hb⟩ := hb;have := h2 _ _ _ ha hb;omega
section
variable {P : Program} {o : Oper} {a : Act} {w : World} {R : Type} {K : Env -> Option R} {r : R} {next : Act -> World -> Prop} {Q : Exit -> Act -> World -> Prop} {c : Cx} {d : Nat} {T : Tab}
theorem Y9o {t : Ty} {tmps : Array Value} {N : Nat} : ∀ (parts : List (Nat × Operand)) {env env' : Env} {n0 : Nat} {xs : List t.D} {dp : Bool} {L : List Leaf} {D Z : List Value} {ps : Nat -> AV} {vs : Nat -> Value},
  elemParts t env n0 parts = some (env', xs, dp) -> RP c env tmps w ps vs -> env.length = N -> (∀ r, r ≠ N -> ps r = .undef) -> ps N = .con .agg L -> (∀ l ∈ L, l.m.settled = true) -> vs N = .agg D.toArray -> D.length = n0 * t.sz -> Z.length = parts.length * t.sz ->
  ∃ (L' : List Leaf) (D' : List Value) (vs' : Nat -> Value), Instr.fill (fun i => some (i * t.sz, t.sz)) (D ++ Z).toArray (parts.map fun p => (p.1, evT tmps p.2)) = some D'.toArray /\ env'.length = N /\ RP c env' tmps w (upd noP N (.con .agg (L ++ L'))) vs' /\ vs' N = .agg D'.toArray /\
   (∀ l ∈ L ++ L', l.m.settled = true) /\ Asms t xs L' dp /\ xs.length = parts.length
 | [], env, env', n0, xs, dp, L, D, Z, ps, vs, hb, h, hN, hps, hpn, hs, hv, hD, hZ => by
  simp [elemParts] at hb;obtain ⟨rfl, rfl, rfl⟩ := hb;have hz : Z = [] := Xn.1 (by simpa using hZ);subst hz;refine ⟨[], D, vs, by simp [Instr.fill], hN, ?_, hv, by simpa using hs, ⟨rfl, rfl⟩, rfl⟩;have e : ps = upd noP N (.con .agg (L ++ [])) := by
   funext r;simp [upd];split
   ·grind
   ·rename_i hr; rw [hps r hr]; rfl
  rw [<- e];exact h
 | (i, x) :: parts, env, env', n0, xs, dp, L, D, Z, ps, vs, hb, h, hN, hps, hpn, hs, hv, hD, hZ => by
  simp only [elemParts] at hb;split at hb
  ·rename_i hi;subst hi;cases hta : takeAs t env x with
   | none => grind
   | some q =>
    obtain ⟨env1, l⟩ := q;rw [hta] at hb;simp only at hb;split at hb
    ·rename_i y has;split at hb
     ·rename_i env2 ys dd hrec;simp at hb;obtain ⟨rfl, rfl, rfl⟩ := hb;obtain ⟨hti, hty⟩ := Y23 hta;have hll := Y1b hty;have hsets : ∀ r, Settled (ps r) := fun r => by
       by_cases hr : r = N
       ·subst hr; exact .inr ⟨_, _, hpn, hs⟩
       ·exact .inl (hps r hr)
      obtain ⟨hl1, h1⟩ := Y17 h hsets hti (n := N + 1) (by omega) (hps _ (by omega));have hset1 := Yx hti;have hcl : D.length = L.length := by
       have := h.pendLen (n := N) (by omega) hpn rfl hs;rw [hv] at this;simpa [Value.cells] using this
      have hxl : (evT tmps x).cells.toList.length = l.length := by
       have := h1.pendLen (n := N + 1) (by omega) (Y0 _ _ _) (Y1k t) hset1;rw [Y0] at this;exact this
      have h2 := h1.merge (n := N) (m := N + 1) (by omega) (by omega) (by omega) (A := L) (O := []) (B := []) (N := l) (cA := D) (cO := []) (cB := [])
       (by rw [Y2 _ _ (by omega)]; simpa using hpn) (Y0 _ _ _) (Y1k t) (by simpa using hs) hset1 (by rw [Y2 _ _ (by omega)]; simpa using hv) hcl rfl
      rw [Y0, Xf, Xf] at h2;simp only [X1s, X2c, Nat.one_mul] at hZ;obtain ⟨L', D', vs', k1, k2, k3, k4, k5, k6, k7⟩ := Y9o parts (Z := Z.drop t.sz) hrec h2 (by omega) (fun r hr => by
        rw [Y2 _ _ hr];by_cases hr1 : r = N + 1
        ·subst hr1; rw [Y0]
        ·rw [Y2 _ _ hr1, Y2 _ _ hr1]; exact hps r hr) (Y0 _ _ _) (fun l' hl' => by
        simp only [X5] at hl';rcases hl' with hl' | hl'
        ·exact hs _ hl'
        ·grind) (Y0 _ _ _) (by rw [Xk, hD, hxl, hll, X2c, Nat.one_mul]) (by rw [X12]; omega)
      refine ⟨l ++ L', D', vs', ?_, k2, by rw [<- X7]; exact k3, k4, by rw [<- X7]; exact k5, ⟨l, L', dd, rfl, has, rfl, k6⟩, by grind⟩;rw [X1y, Y8h (off := i * t.sz) (sz := t.sz) rfl (by rw [<- X17, hxl, hll]) (by grind)];have e1 : (D ++ Z).toArray.toList.take (i * t.sz) = D := by grind
      have e2 : (D ++ Z).toArray.toList.drop (i * t.sz + t.sz) = Z.drop t.sz := by
       rw [<- hD, <- List.drop_drop, List.drop_left'];rfl
      rw [e1, e2];exact k1
     ·simp at hb
    ·simp at hb
  ·simp at hb
end
theorem Y3l : ∀ (t : Ty) {ls : List Leaf} {x : t.D} {rest : List Leaf}, asm t ls = some (x, rest) -> ∃ us, ls = us ++ rest /\ ∀ z ∈ us, z.t.isAgg = false
 | .unit, ls, x, rest, h => by
  simp [asm] at h;obtain ⟨_, rfl⟩ := h;exact ⟨[], rfl, by simp⟩
 | .pair a b, ls, x, rest, h => by
  simp [asm] at h;cases ha : asm a ls with
  | none => rw [ha] at h; simp at h
  | some q =>
   obtain ⟨xa, ra⟩ := q;rw [ha] at h;simp only at h;cases hb : asm b ra with
   | none => rw [hb] at h; simp at h
   | some q =>
    obtain ⟨xb, rb⟩ := q;rw [hb] at h;simp at h;obtain ⟨rfl, rfl⟩ := h;obtain ⟨u1, e1, g1⟩ := Y3l a ha;obtain ⟨u2, e2, g2⟩ := Y3l b hb;exact ⟨u1 ++ u2, by grind⟩
 | .int k, ls, x, rest, h => by
  cases ls with
  | nil => simp [asm] at h
  | cons l ls =>
   simp [asm] at h;split at h
   ·rename_i y hx;simp at h;exact ⟨[l], by rw [h.2]; rfl, fun z hz => by rw [Xb.1 hz, Leaf.as_eq hx]; rfl⟩
   ·simp at h
 | .bool, ls, x, rest, h => by
  cases ls with
  | nil => simp [asm] at h
  | cons l ls =>
   simp [asm] at h;split at h
   ·rename_i y hx;simp at h;exact ⟨[l], by rw [h.2]; rfl, fun z hz => by rw [Xb.1 hz, Leaf.as_eq hx]; rfl⟩
   ·simp at h
 | .str, ls, x, rest, h => by
  cases ls with
  | nil => simp [asm] at h
  | cons l ls =>
   simp [asm] at h;split at h
   ·rename_i y hx;simp at h;exact ⟨[l], by rw [h.2]; rfl, fun z hz => by rw [Xb.1 hz, Leaf.as_eq hx]; rfl⟩
   ·simp at h
 | .slice e τ, ls, x, rest, h => by
  cases ls with
  | nil => simp [asm] at h
  | cons l ls =>
   simp [asm] at h;split at h
   ·rename_i y hx;simp at h;exact ⟨[l], by rw [h.2]; rfl, fun z hz => by rw [Xb.1 hz, Leaf.as_eq hx]; rfl⟩
   ·simp at h
theorem Y7f : ∀ {ys : List t.D} {M : List Leaf} {dd : Bool}, Asms t ys M dd -> ∀ z ∈ M, z.t.isAgg = false
 | [], M, dd, ⟨h, _⟩, z, hz => by simp_all
 | y :: ys, M, dd, ⟨l, L', d', h1, h2, _, h4⟩, z, hz => by
  rw [h1] at hz;rcases X5.1 hz with hz | hz
  ·obtain ⟨us, e, g⟩ := Y3l t h2;rw [Xf] at e;exact g z (e ▸ hz)
  ·exact Y7f h4 z hz
section
variable {P : Program} {o : Oper} {a : Act} {w : World} {R : Type} {K : Env -> Option R} {r : R} {next : Act -> World -> Prop} {Q : Exit -> Act -> World -> Prop} {c : Cx} {d : Nat} {T : Tab} {env : Env}
theorem RP.rowed (h : RP c env tmps w ps vs) (hn : env.length <= n) {xs : List t.D} {L : List Leaf} {cells : Array Value} {dp : Bool} (hp : ps n = .con .agg L) (hs : ∀ l ∈ L, l.m.settled = true) (hv : vs n = .agg cells) (hx : Asms t xs L dp)
  (hm : xs.length <= maxLen) :
  RP c env tmps (w.alloc (.cells cells e (0, 0))) (upd ps n (.con .val [⟨.slice e t, xs, .at_ (if dp then .dp else .sh)⟩])) (upd vs n (.slice (some ⟨w.heap.size, 0, none⟩) xs.length xs.length)) := by
 obtain ⟨hlen, cs, bs, hr, hno⟩ := h;obtain ⟨n1, n2, n3, n4, n5⟩ := Y2l hlen hr hn hp rfl hs;rw [hv] at n1;rw [n1] at n3 n5
 let v' : Value := .slice (some ⟨w.heap.size, 0, none⟩) xs.length xs.length
 let F : Nat -> List Nat := fun l => bs n (l + 1)
 let b1 : List Nat := if dp then (List.range' 0 L.length).flatMap F else []
 have hmem1 : ∀ b ∈ b1, ∃ l, b ∈ bs n l := by grind
 have hnd1 : b1.Nodup := by
  simp [b1];split
  ·exact Y2d (fun l => hr.nodup _ _) (fun l l' b h1 h2 => by have := (hr.disj _ _ _ _ _ h1 h2).2; omega) _ _
  ·exact X16
 have hlt : ∀ b ∈ b1, b < w.heap.size := fun b hb => let ⟨l, hl⟩ := hmem1 b hb; (hr.own _ _ _ hl).2
 have key := RP.reformAt (m := n) (w' := w.alloc (.cells cells e (0, 0))) (av := .con .val [⟨.slice e t, xs, .at_ (if dp then .dp else .sh)⟩]) (v := v') hlen hr hno hn hn (Yc (by simp [Mode.settled])) ((Yv _ _).mono hr.base) (fun b hb _ => (Yv _ _).block b hb) [v'] (fun l => if l = 1 then [w.heap.size] ++ b1 else []) ?_ ?_ ?_ ?_
 ·rw [Yf] at key;exact key
 ·intro l b hb;by_cases hl : l = 1
  ·rw [X4 hl] at hb;rcases X5.1 hb with hb | hb
   ·rw [Xb.1 hb, Y3t]; exact ⟨by omega, .inl (Xi _)⟩
   ·obtain ⟨l', hl'⟩ := hmem1 b hb;exact ⟨by rw [Y3t]; have := hlt b hb; omega, .inr ⟨l', .inl hl'⟩⟩
  ·grind
 ·grind
 ·grind
 ·intro s' hk;have ebs' : s'.bs n = fun l => if l = 1 then [w.heap.size] ++ b1 else [] := Y0 _ _ _
  have ebs1 : s'.bs n 1 = [w.heap.size] ++ b1 := by rw [ebs']; rfl
  have ecs : s'.cs n = [v'] := Y0 _ _ _;have hkeep : ∀ b, RoS c (SS env ps tmps vs w cs bs) b -> b < w.heap.size -> RoS c s' b /\ (w.alloc (.cells cells e (0, 0))).heap[b]? = w.heap[b]? := hk;have hfree : dp = false -> ∀ l b, b ∈ bs n l -> RoS c s' b := by
   intro hd l b hb;refine ⟨fun r l' hmem => ?_, .inr (hr.own _ _ _ hb).1⟩;by_cases hrn : r = n
   ·subst hrn;rw [ebs'] at hmem;by_cases hl' : l' = 1
    ·simp only [X4 hl'] at hmem;have : b1 = [] := by simp only [b1, hd]; rfl
     rw [this, Xf, Xb] at hmem;have : b < w.heap.size := (hr.own _ _ _ hb).2;omega
    ·simp only [X2 hl'] at hmem; simp at hmem
   ·have e2 : s'.bs r = bs r := by show upd (upd bs n _) n _ r = _; rw [Y2 _ _ hrn, Y2 _ _ hrn]
    rw [e2] at hmem;exact hrn (hr.disj _ _ _ _ _ hmem hb).1
  refine ⟨⟨ecs, by rw [ebs']; rfl⟩, by rw [ecs]; rfl, fun l hl => ?_, ?_⟩
  ·grind
  ·intro l lf u hl hu;rw [ecs] at hu;have hl0 : l = 0 := by grind
   subst hl0;obtain rfl : lf = ⟨.slice e t, xs, .at_ (if dp then .dp else .sh)⟩ := by simpa [leafAt] using hl.symm
   have hu' : u = v' := by simpa using hu.symm
   rw [hu'];have hcl : cells.toList.length = L.length := n3.symm;have hel : ∃ bb, bb = b1 /\ El (Rep (RoS c s') (w.alloc (.cells cells e (0, 0))) t (if dp then Lvl.dp else .sh).sub) t.sz cells.toList xs bb := by
    cases hd : dp with
    | true =>
     refine ⟨_, by simp [b1, hd]; rfl, Asms.el (F := F) hx n3 (fun l lf u hl hu => ?_)⟩;obtain ⟨lv, ⟨hm1, _⟩, hrep⟩ := n5 l lf u hl hu;have hrep : Rep (RoS c s') (w.alloc (.cells cells e (0, 0))) lf.t lv [u] lf.x (bs n (l + 1)) := Rep.move hkeep (fun b hb => (Yv _ _).block b (hr.own _ _ _ hb).2) hrep;rw [X13];have hdeep := Asms.deep hx hd;have := Xa.1 hdeep lf (X8 hl);obtain ⟨tt, x, m⟩ := lf;simp only at hm1;subst hm1;cases tt with
     | slice e' t' =>
      have : lv = .dp := by simpa using this
      subst this;exact hrep
     | int k => exact hrep
     | bool => exact hrep
     | str => exact hrep
     | unit => exact hrep
     | pair p q =>
      exfalso
      -- leaves are never aggregates: their cells are one
      have h1 := hrep.len;have h2 := Rep.one hrep;have hflat : ∀ {ys : List t.D} {M : List Leaf} {dd : Bool}, Asms t ys M dd -> ∀ z ∈ M, z.t.isAgg = false := Y7f;have := hflat hx _ (X8 hl);simp [Ty.isAgg] at this
    | false =>
     refine ⟨[], by simp only [b1, hd]; rfl, ?_⟩;have := Asms.el (S := RoS c s') (w := w.alloc (.cells cells e (0, 0))) (Lv := .ro) (F := fun _ => []) (k := 0) hx n3 (fun l lf u hl hu => by
      obtain ⟨lv, hm1, hrep⟩ := n5 l lf u hl hu;refine Rep.move (S := fun b => RoS c (SS env ps tmps vs w cs bs) b \/ b ∈ bs n (l + 1)) (fun b hb hlt => ?_) (by simp) hrep.ro;rcases hb with hb | hb
      ·exact hkeep b hb hlt
      ·exact ⟨hfree hd _ b hb, (Yv _ _).block b hlt⟩)
     have e0 : (List.range' 0 L.length).flatMap (fun _ => ([] : List Nat)) = [] := by simp
     rw [e0] at this;exact this
   have hown : (w.alloc (.cells cells e (0, 0))).ownsRow 0 e t.sz v' xs.length cells.toList := by
    refine World.ownsRow_lit w cells xs.length (X2w _) hm ?_;obtain ⟨bb, _, hel⟩ := hel;rw [<- X17];exact hel.len
   obtain ⟨bb, rfl, hel⟩ := hel;have goal : Rep (RoS c s') (w.alloc (.cells cells e (0, 0))) (.slice e t) (if dp then .dp else .sh) [v'] xs (s'.bs n 1) := by
    refine ⟨v', cells.toList, [w.heap.size], b1, rfl, ebs1, hel, ?_⟩;cases dp with
    | true => exact ⟨rfl, hown⟩
    | false => exact ⟨rfl, hown⟩
   exact LeafRel.of_rep (by cases dp <;> trivial) goal
theorem Y8x (hT : TabOk P T) {t : TypeId} {parts : Array (Nat × Operand)} {env' : Env} {xs : List te.ty.D} {dp : Bool} (hop : o.op = .buildSlice t n parts) (hdst : o.dst = some d) (hr : RE c env a.tmps w) (hd : d < env.length) (ht : elemAt T t = some te) (hnp : n = parts.size) (h1 : n <= 1000) (h2 : te.ty.sz <= 1000)
  (he : elemParts te.ty env 0 parts.toList = some (env', xs, dp)) (hK : K (setD (some d) env' (.con .val [⟨.slice te.id te.ty, xs, .at_ (if dp then .dp else .sh)⟩])) = some r) (hn : Next c a K r env.length next) : o.wp P a w next Q := by
 obtain ⟨vs, h⟩ := hr;obtain ⟨hty, hund, htid, hsz, hby, i0, hi0, hi1, hi2, hi3⟩ := TabOk.elem hT ht;have h0 := h.addVal (n := env.length) (Xi _) rfl (av := .con .agg []) (v := .agg #[]) (fun cs bs hrel => ⟨[], ⟨rfl, rfl⟩, rfl, fun l lf u hl hu => by simp [leafAt] at hl⟩) ⟨by simp [AV.refs], by simp [AV.ptrs]⟩
 let z := zeroVal te.ty
 let Z : Array Value := if n * te.ty.sz = 0 then #[] else z.cells
 let C : Array Value := (Array.range (n * te.ty.sz)).map fun x => Z[x % Z.size]!
 have hC : C.toList.length = parts.toList.length * te.ty.sz := by simp [C, hnp]
 obtain ⟨L', D', vs', k1, k2, k3, k4, k5, k6, k7⟩ := Y9o (c := c) (w := w) (t := te.ty) (tmps := a.tmps) (N := env.length) parts.toList (Z := C.toList) (D := []) he h0 rfl (fun r hr => Y2 _ _ hr) (Y0 _ _ _) (by simp) (by rw [Y0]) (by simp) hC;rw [X2l] at k3 k5;have hxn : xs.length = n := by simp_all
 have h4 := k3.rowed (n := env.length) (e := te.id) (t := te.ty) (xs := xs) (dp := dp) (by omega) (Y0 _ _ _) k5 k4 k6 (by simp [maxLen]; omega);rw [Yf, <- k2] at h4;refine fin hdst (v := .slice (some ⟨w.heap.size, 0, none⟩) n n) (w' := w.alloc (.cells D'.toArray te.id (0, 0))) ?_ (by omega) k2 h4 (by rw [Y0, hxn]) hK hn;have hlim : ¬ 2 ^ 24 < n * te.ty.sz := by
  have : n * te.ty.sz <= 1000 * 1000 := Nat.mul_le_mul h1 h2;omega
 have hfill : Instr.fill (fun i => some (i * te.ty.sz, te.ty.sz)) C (parts.toList.map fun p => (p.1, evT a.tmps p.2)) = some D'.toArray := by simp_all
 have hsize := TabOk.sizeOf hT htid;have hzero := TabOk.zero hT htid;have hmap : (parts.map fun p => (p.1, a.eval p.2)).toList = parts.toList.map fun p => (p.1, evT a.tmps p.2) := by rw [Array.toList_map, Y6]
 by_cases hz0 : n * te.ty.sz = 0
 ·have eC : C = (Array.range (n * te.ty.sz)).map fun x => (#[] : Array Value)[x % (#[] : Array Value).size]! := by simp only [C, Z, X4 hz0]
  rw [eC, hz0] at hfill;simp at hfill;simp [execOp, hop, Instr.buildSlice, run_underlying hund, hsize, hz0, hmap, hfill, newRow, newObj, Sem.run, Y6]
  try rfl
 ·have eC : C = (Array.range (n * te.ty.sz)).map fun x => z.cells[x % z.cells.size]! := by simp only [C, Z, X2 hz0]
  rw [eC] at hfill;simp [execOp, hop, Instr.buildSlice, run_underlying hund, hsize, hzero, hz0, hlim, hmap, hfill, newRow, newObj, Sem.run, Y6, z]
  try rfl
end
theorem Y9p {α : Type} [Inhabited α] (l : List α) : ∀ (n i : Nat), (List.replicate n l).flatten[i]? = if i < n * l.length then some (l[i % l.length]!) else none
 | 0, i => by simp
 | n + 1, i => by
  rw [List.replicate_succ, List.flatten_cons, X2c, Nat.one_mul];by_cases h : i < l.length
  ·rw [Xp h, Nat.mod_eq_of_lt h, X4 (by omega)];simp [h]
  ·rw [Xd (by omega), Y9p l n (i - l.length)];by_cases h2 : i < n * l.length + l.length
   ·rw [X4 (by omega), X4 h2];congr 2;have : i % l.length = (i - l.length) % l.length := Nat.mod_eq_sub_mod (by omega);rw [this]
   ·grind
theorem Ydw (z : Array Value) (n : Nat) : (madeCells z (n * z.size)).toList = (List.replicate n z.toList).flatten := by
 apply X24;intro j;rw [Y9p, X17];by_cases hj : j < n * z.size
 ·rw [X4 hj];have hz : j % z.size < z.size := Nat.mod_lt _ (by
   apply Xx;intro h;have : z.size = 0 := by omega
   rw [this] at hj;simp at hj)
  simp [madeCells, hj, hz]
 ·rw [X2 hj];simp [madeCells, hj]
section
variable {P : Program} {o : Oper} {a : Act} {w : World} {R : Type} {K : Env -> Option R} {r : R} {next : Act -> World -> Prop} {Q : Exit -> Act -> World -> Prop} {c : Cx} {d : Nat} {T : Tab} {env : Env}
theorem Y9q (hT : TabOk P T) {t : TypeId} {l cc : Operand} {n m : Int} (hop : o.op = .makeSlice t l cc) (hdst : o.dst = some d) (hr : RE c env a.tmps w) (hd : d < env.length) (ht : elemAt T t = some te) (hl : int1 (rd none env l) = some (.i64, n)) (hc : int1 (rd none env cc) = some (.i64, m)) (hnm : n = m) (h0 : 0 <= n) (hb : n * te.bytes <= 140737488355328)
  (hK : K (setD (some d) env (.con .val [⟨.slice te.id te.ty, List.replicate n.toNat te.ty.dflt, .at_ .dp⟩])) = some r) (hn : Next c a K r env.length next) : o.wp P a w next Q := by
 obtain ⟨hty, hund, htid, hsz, hby, i0, hi0, hi1, hi2, hi3⟩ := TabOk.elem hT ht;subst hnm;obtain ⟨k, rfl⟩ : ∃ k : Nat, n = (k : Int) := ⟨n.toNat, by omega⟩;have el := hr.int1 hl;have ec := hr.int1 hc;obtain ⟨vs, hlen, cs, bs, h1, hno⟩ := hr;have hkb : k * te.bytes <= 140737488355328 := by grind
 have hk63 : k <= maxLen := by
  have : k * 1 <= k * te.bytes := Nat.mul_le_mul_left _ hby;simp [maxLen];omega
 obtain ⟨w', r1, r2, r3⟩ := run_make_full (P := P) w 0 t te.id i0 (zeroVal te.ty) te.ty.sz hund hi0 hi3 hi1 .i64 .i64 k (by grind) hk63 (X2w _)
 let v' : Value := .slice (some ⟨w.heap.size, 0, none⟩) k k
 have hz : (zeroVal te.ty).cells.size = te.ty.sz := by rw [<- X17, Y1y, Y1i]
 have hcells : (madeCells (zeroVal te.ty).cells (k * te.ty.sz)).toList = (List.replicate k (zeroCells te.ty)).flatten := by
  rw [<- hz, Ydw, Y1y]
 rw [hcells] at r2;have hlt : w.heap.size < w'.heap.size := (Y1v r2 _ rfl).2;have key := RP.reformAt (n := env.length) (m := env.length) (w' := w') (av := .con .val [⟨.slice te.id te.ty, List.replicate k te.ty.dflt, .at_ .dp⟩]) (v := v') hlen h1 hno (Xi _) (Xi _) (Yc (by simp [Mode.settled]))
  (Below.mono ⟨r3.os, r3.tape, r3.output, r3.size, fun b hb => r3.block b hb (by simp)⟩ h1.base) (fun b hb _ => r3.block b hb (by simp)) [v'] (fun l => if l = 1 then [w.heap.size] else []) ?_ ?_ ?_ ?_
 ·rw [Yf] at key;refine fin hdst (v := v') (w' := w') ?_ hd rfl key (Y0 _ _ _) (by grind) hn;simp [execOp, hop, Y6, el, ec, r1]
  try rfl
 ·grind
 ·grind
 ·grind
 ·intro s' hk;have ebs' : s'.bs env.length = fun l => if l = 1 then [w.heap.size] else [] := Y0 _ _ _
  have ecs : s'.cs env.length = [v'] := Y0 _ _ _;refine ⟨⟨ecs, by rw [ebs']; rfl⟩, by rw [ecs]; rfl, fun l hl => ?_, ?_⟩
  ·rw [ebs'];simp at hl;exact X2 (by omega)
  ·intro l lf u hl hu;rw [ecs] at hu;have hl0 : l = 0 := by grind
   subst hl0;obtain rfl : lf = ⟨.slice te.id te.ty, List.replicate k te.ty.dflt, .at_ .dp⟩ := by simpa [leafAt] using hl.symm
   have hu' : u = v' := by grind
   rw [hu'];refine LeafRel.of_rep trivial ⟨v', (List.replicate k (zeroCells te.ty)).flatten, [w.heap.size], [], rfl, by rw [ebs']; rfl, El.replicate _ _ (Y1i _) (Rep.zero _ _ _ _) k, ⟨rfl, ?_⟩⟩;rw [List.length_replicate];exact r2
theorem Y7g {isSlice : Bool} {len cap : Nat} {a b : Option Int} (h0 : 0 <= a.getD 0) (h1 : a.getD 0 <= b.getD (len : Int)) (h2 : b.getD (len : Int) <= (len : Int)) (h3 : len <= cap) :
  (Instr.sliceBounds isSlice len cap (a.map (Value.int .i64)) (b.map (Value.int .i64)) none).run P w = .ok ((a.getD 0).toNat, (b.getD (len : Int)).toNat, cap) w := by
 cases a with
 | none => cases b with
  | none => simp [Instr.sliceBounds]
  | some b =>
   simp at h0 h1 h2;simp [Instr.sliceBounds, run_sliceBound, h0, h1, (by omega : b <= (cap : Int))]
 | some a => cases b with
  | none =>
   simp at h0 h1 h2;simp [Instr.sliceBounds, run_sliceBound, h0, h1]
  | some b =>
   simp at h0 h1 h2;simp [Instr.sliceBounds, run_sliceBound, h0, h1, (by omega : b <= (cap : Int)), (by omega : 0 <= b), Int.toNat_of_nonneg (by omega : 0 <= b)]
theorem Y9r (hT : TabOk P T) {t : TypeId} {lo hi : Option Operand} {a' b' : Option Int} {s : ByteArray} (hop : o.op = .slice t x lo hi none) (hdst : o.dst = some d) (hr : RE c env a.tmps w) (hd : d < env.length) (ht : T.ty t = some .str) (hx : str1 (rd none env x) = some s) (hlo : optInt env lo = some a') (hhi : optInt env hi = some b')
  (h0 : 0 <= a'.getD 0) (h1 : a'.getD 0 <= b'.getD (s.size : Int)) (h2 : b'.getD (s.size : Int) <= (s.size : Int)) (hK : K (setD (some d) env (vStr (s.extract (a'.getD 0).toNat (b'.getD (s.size : Int)).toNat))) = some r) (hn : Next c a K r env.length next) : o.wp P a w next Q := by
 have hund := TabOk.str hT ht;have ex := hr.str1 hx;have opt : ∀ {y : Option Operand} {z : Option Int}, optInt env y = some z -> y.map (evT a.tmps) = z.map (Value.int .i64) := by
  intro y z h;cases y with
  | none => simp [optInt] at h; subst h; rfl
  | some y =>
   simp [optInt] at h;split at h
   ·rename_i n hi1;simp at h;subst h;simp [hr.int1 hi1]
   ·simp at h
 refine finV hr hdst (v := .string (s.extract (a'.getD 0).toNat (b'.getD (s.size : Int)).toNat)) ?_ hd (fun vs cs bs _ => Y84 _ _ _) ⟨by simp [vStr, AV.refs, Leaf.refs], by simp [vStr, AV.ptrs]⟩ hK hn;have hb := Y7g (P := P) (w := w) (isSlice := false) (len := s.size) (cap := s.size) h0 h1 h2 (Xi _);simp [execOp, hop, Y6, ex, opt hlo, opt hhi, Instr.sliceAt, Instr.slice, run_underlying hund, hb]
end
theorem Ybq {A : Option Addr} {n cap l h : Nat} {xs : List τ.D} (hr : Rep S w (.slice e τ) .ro [.slice A n cap] xs []) (hl : l <= h) (hh : h <= xs.length) :
  Rep S w (.slice e τ) .ro [sliced A l h cap τ.sz] ((xs.take h).drop l) [] := by
 obtain ⟨v, cells, b0, b1, e1, e2, hel, hrow⟩ := hr;obtain ⟨rfl, rfl⟩ := X21.1 e2.symm;obtain rfl : v = .slice A n cap := by grind
 obtain ⟨_, A', c', e3, hlc, hz, hc⟩ := hrow;simp at e3;obtain ⟨rfl, rfl, rfl⟩ := e3;have h1 := El.take (n := τ.sz) h hel (fun c x b h => Rep.ro_bs h);have h2 := El.drop (n := τ.sz) l h1 (fun c x b h => Rep.ro_bs h);refine ⟨sliced A l h cap τ.sz, _, [], [], rfl, rfl, h2, rfl, (if cap = l then A else A.map (·.add (l * τ.sz))), cap - l, ?_, ?_, ?_, ?_⟩
 ·simp only [sliced];congr 1;simp only [X12, Xm];omega
 ·simp;omega
 ·intro hn;split at hn
  ·omega
  ·have : A = none := by cases A with
    | none => rfl
    | some a => simp at hn
   have := hz this;omega
 ·intro j u hu;rw [X1l, X1j] at hu;split at hu
  ·rename_i hlt;obtain ⟨a, rfl, hs, hcell⟩ := hc _ u hu;have hne : cap ≠ l := by grind
   rw [X2 hne];refine ⟨a.add (l * τ.sz), rfl, by rw [Addr.add_block]; exact hs, ?_⟩;rw [Y6a];exact hcell
  ·simp at hu
section
variable {P : Program} {o : Oper} {a : Act} {w : World} {R : Type} {K : Env -> Option R} {r : R} {next : Act -> World -> Prop} {Q : Exit -> Act -> World -> Prop} {c : Cx} {d : Nat} {T : Tab} {env : Env}
theorem Ybr {α : Type} (x : List α) (a b : Option Int) (h : b.getD (x.length : Int) <= (x.length : Int)) : sliceOf x a b = (x.take (b.getD (x.length : Int)).toNat).drop (a.getD 0).toNat := by
 cases a <;> cases b <;> simp [sliceOf]
theorem Ydx (hT : TabOk P T) {t : TypeId} {lo hi : Option Operand} {a' b' : Option Int} {lx : Leaf} {xs : List te.ty.D} (hop : o.op = .slice t x lo hi none) (hdst : o.dst = some d) (hr : RE c env a.tmps w) (hd : d < env.length) (ht : elemAt T t = some te)
  (hx : rd (some (.slice te.id te.ty)) env x = .con .val [lx]) (has : lx.as (.slice te.id te.ty) = some xs) (hlive : lx.m.live = true) (hlo : optInt env lo = some a') (hhi : optInt env hi = some b')
  (h0 : 0 <= a'.getD 0) (h1 : a'.getD 0 <= b'.getD (xs.length : Int)) (h2 : b'.getD (xs.length : Int) <= (xs.length : Int)) (hK : K (setD (some d) (freezeAll [lx] env) (.con .val [⟨.slice te.id te.ty, sliceOf xs a' b', .at_ .ro⟩])) = some r) (hn : Next c a K r env.length next) : o.wp P a w next Q := by
 obtain ⟨hty, hund, htid, hsz, hby, i0, hi0, hi1, hi2, hi3⟩ := TabOk.elem hT ht;obtain ⟨A, cp, ex, hcp⟩ := hr.slice hx has hlive;have opt : ∀ {y : Option Operand} {z : Option Int}, optInt env y = some z -> y.map (evT a.tmps) = z.map (Value.int .i64) := by
  intro y z h;cases y with
  | none => simp [optInt] at h; subst h; rfl
  | some y =>
   simp [optInt] at h;split at h
   ·rename_i n hi1;simp at h;subst h;simp [hr.int1 hi1]
   ·simp at h
 obtain ⟨vs, hlen, cs, bs, hrel, hno⟩ := hr;obtain ⟨cells, hv⟩ := Yl hlen hrel (some (.slice te.id te.ty)) x;rw [hx, ex] at hv;have hrefs := (Y69 (ps := noP) (vs := vs) ⟨hlen, cs, bs, hrel, hno⟩ (some (.slice te.id te.ty)) x).1;rw [hx] at hrefs;have hheld : Held c (SS env noP a.tmps vs w cs bs) (.slice A xs.length cp) lx := by
  obtain ⟨⟨k1, _⟩, _, k3⟩ := hv;have := k3 0 lx (.slice A xs.length cp) rfl (by rw [k1]; rfl);obtain ⟨t', x', m⟩ := lx;cases m with
  | at_ lv => exact Rep.roS this.1 (fun b hb _ => hb) (by simp)
  | bor r j p => exact this
  | dead => simp [Mode.live] at hlive
 obtain ⟨bs', h3, h4, h5⟩ := hrel.freezeAll_ [lx];have hrep := hrel.thaw (E := freezeAllE [lx] (ovl env noP)) h4 (h5 lx (by simp)) hheld hlive;rw [Leaf.as_eq has] at hrep
 let L := (a'.getD 0).toNat
 let H := (b'.getD (xs.length : Int)).toNat
 have hrs := Ybq (l := L) (h := H) (xs := xs) hrep (by omega) (by omega);have eo := Y1h (env := env) (ps := noP) [lx] (by
  intro l hl q hq;exact hrefs q (by simp only [AV.refs, Xj]; exact ⟨l, hl, hq⟩)) (fun _ => .inl rfl)
 have hfl := (Yk [lx] env).2;have hq : (freezeAllE [lx] (ovl env noP) env.length).quiet = true := by
  rw [eo, Yt (by grind)]; rfl
 have h6 := h3.setVal (d := env.length) hq (av := .con .val [⟨.slice te.id te.ty, sliceOf xs a' b', .at_ .ro⟩]) (v := sliced A L H cp te.ty.sz) (cells := [sliced A L H cp te.ty.sz]) ⟨⟨rfl, rfl⟩, rfl, fun l lf u hl hu => by
  have hl0 : l = 0 := by grind
  subst hl0;obtain rfl : lf = ⟨.slice te.id te.ty, sliceOf xs a' b', .at_ .ro⟩ := by simpa [leafAt] using hl.symm
  have hu' : u = sliced A L H cp te.ty.sz := by grind
  rw [hu'];show Rep _ _ _ _ _ _ _ /\ True;rw [Ybr _ _ _ h2];exact ⟨hrs, trivial⟩⟩
 have hRP : RP c (freezeAll [lx] env) a.tmps w (upd noP (freezeAll [lx] env).length (.con .val [⟨.slice te.id te.ty, sliceOf xs a' b', .at_ .ro⟩])) (upd vs env.length (sliced A L H cp te.ty.sz)) := by
  refine ⟨by rw [hfl]; exact hlen, _, _, Rel.congr h6 ?_ ?_, fun r => ?_⟩
  ·show upd (freezeAllE [lx] (ovl env noP)) env.length _ = _;rw [eo, Yd (Xi _), hfl]
  ·show upd (ovlT a.tmps vs) env.length _ = _;rw [Y13 (by omega)]
  ·rw [Yd (Xi _), <- eo, hfl];by_cases hrn : r = env.length
   ·subst hrn; rw [Y0]; exact ⟨by simp [AV.refs, Leaf.refs], by simp [AV.ptrs]⟩
   ·rw [Y2 _ _ hrn];have := Y1a [lx] (ovl env noP) r;exact ⟨fun q hq => (hno r).1 q (this.1 q hq), fun q hq => (hno r).2 q (this.2 q hq)⟩
 refine fin hdst (v := sliced A L H cp te.ty.sz) (w' := w) ?_ (by rw [hfl]; exact hd) hfl hRP (by rw [hfl, Y0]) hK hn;have hb := Y7g (P := P) (w := w) (isSlice := true) (len := xs.length) (cap := cp) h0 h1 h2 hcp;have hsize := TabOk.sizeOf hT htid;simp [execOp, hop, Y6, ex, opt hlo, opt hhi, Instr.sliceAt, Instr.slice, run_underlying hund, hb, hsize, sliced, L, H]
end
section
variable {P : Program} {o : Oper} {a : Act} {w : World} {R : Type} {K : Env -> Option R} {r : R} {next : Act -> World -> Prop} {Q : Exit -> Act -> World -> Prop} {c : Cx} {d : Nat} {T : Tab} {env : Env}
theorem RP.storeBox (h : RP c env tmps w ps vs) {m : Nat} (hm : env.length <= m) (hps : ∀ q, q ≠ m -> ps q = .undef) {r : Nat} {e : BoxK} {A O B N : List Leaf} (hr : get env r = .con (.box e) (A ++ O ++ B)) (hO : ∀ l ∈ O, l.m.own = false) (hpm : ps m = .con k N) (hk : k.plain = true) (hsN : ∀ l ∈ N, l.m.settled = true) (hNO : N.length = O.length) (hfr : ∀ l, A.length <= l -> l < A.length + O.length -> nthB e.fix l = false) :
  ∃ (Bk : Nat) (cur : Array Value), tmps.getD r undef = .pointer (some ⟨Bk, 0, none⟩) /\ w.heap[Bk]? = some (.cells cur e.id (0, 0)) /\ cur.toList.length = A.length + O.length + B.length /\ (vs m).cells.toList.length = N.length /\ (∀ u ∈ (vs m).cells.toList, u.oneCell' = true) /\
   RP c (put env r (.con (.box e) (A ++ N ++ B))) tmps (w.setRow Bk (cur.toList.take A.length ++ (vs m).cells.toList ++ cur.toList.drop (A.length + O.length)).toArray) (upd ps m .undef) vs := by
 obtain ⟨hlen, cs, bs, hrel, hno⟩ := h;have hrl : r < env.length := Yw hr;have hrm : r ≠ m := X1k (X1e hrl hm);obtain ⟨m1, m2, m3, m4, m5⟩ := Y2l hlen hrel hm hpm hk hsN;have hav := hrel.av r;have e1 : (SS env ps tmps vs w cs bs).env r = .con (.box e) (A ++ O ++ B) := by show ovl env ps r = _; rw [Y8 hrl, hr]
 have e2 : (SS env ps tmps vs w cs bs).tm r = tmps.getD r undef := X4 (by omega);rw [e1, e2] at hav;obtain ⟨⟨Bk, g1, g2, g3, g5⟩, h2, h3, h4⟩ := hav;have g2 : w.heap[Bk]? = some (.cells (cs r).toArray e.id (0, 0)) := g2;have g3 : bs r 0 = [Bk] := g3;have h2 : (A ++ O ++ B).length = (cs r).length := h2;have h3 : ∀ l, (A ++ O ++ B).length <= l -> bs r (l + 1) = [] := h3;have h4 : ∀ l lf u, leafAt (A ++ O ++ B) l = some lf -> (cs r)[l]? = some u -> LeafRel c (SS env ps tmps vs w cs bs) r l u lf := h4;simp only [Xk] at h2;refine ⟨Bk, (cs r).toArray, g1, g2, by simp; omega, by rw [<- m1, <- m3], fun u hu => ?_, ?_⟩
 ·rw [<- m1] at hu;obtain ⟨l, hl⟩ := Xw hu;have hlt : l < (cs m).length := (X6.1 hl).1;obtain ⟨lv, _, hrep⟩ := m5 l N[l] u (X1 (by omega)) hl;exact Rep.one hrep u (by simp)
 rw [<- m1]
 let cr : List Value := (cs r).take A.length ++ cs m ++ (cs r).drop (A.length + O.length)
 let br : Nat -> List Nat := fun l => if A.length < l /\ l <= A.length + O.length then bs m (l - A.length) else bs r l
 let w' := w.setRow Bk cr.toArray
 let s' : St := ⟨upd (upd (ovl env ps) m .undef) r (.con (.box e) (A ++ N ++ B)), ovlT tmps vs, w', upd cs r cr, upd (upd bs m (fun _ => [])) r br⟩
 have hw' : w'.heap[Bk]? = some (.cells cr.toArray e.id (0, 0)) := setRow_heap w Bk _ _ e.id (0, 0) g2;have hwo : ∀ b, b ≠ Bk -> w'.heap[b]? = w.heap[b]? := fun b hb => setRow_other w Bk b _ hb;have hBown : Bk ∈ bs r 0 := by rw [g3]; simp
 have hbr : ∀ l b, b ∈ br l -> (b ∈ bs m (l - A.length) /\ A.length < l /\ l <= A.length + O.length) \/ (b ∈ bs r l /\ ¬ (A.length < l /\ l <= A.length + O.length)) := by grind
 have ebr : s'.bs r = br := Y0 _ _ _;have ecr : s'.cs r = cr := Y0 _ _ _;have eer : s'.env r = .con (.box e) (A ++ N ++ B) := Y0 _ _ _;have ebm : s'.bs m = fun _ => [] := by show upd _ _ _ m = _; rw [Y2 _ _ (Ne.symm hrm), Y0]
 have eem : s'.env m = .undef := by show upd _ _ _ m = _; rw [Y2 _ _ (Ne.symm hrm), Y0]
 have hsame : ∀ q, ¬ (q = r \/ q = m) -> s'.env q = ((SS env ps tmps vs w cs bs).env q).chg noG /\ s'.tm q = (SS env ps tmps vs w cs bs).tm q /\ s'.cs q = (SS env ps tmps vs w cs bs).cs q /\ s'.bs q = (SS env ps tmps vs w cs bs).bs q := fun q hq => by
  simp only [X2v] at hq;refine ⟨by rw [AV.chg_no]; show upd _ _ _ q = _; rw [Y2 _ _ hq.1, Y2 _ _ hq.2], rfl, Y2 _ _ hq.1, ?_⟩;show upd _ _ _ q = _;rw [Y2 _ _ hq.1, Y2 _ _ hq.2]
 -- places that stay
 have hlA : (cs r).length = A.length + O.length + B.length := h2.symm;have hcr : ∀ l, ¬ (A.length <= l /\ l < A.length + O.length) -> cr[l]? = (cs r)[l]? /\ (A ++ N ++ B)[l]? = (A ++ O ++ B)[l]? := by
  intro l hl;by_cases h1 : l < A.length
  ·grind
  ·grind
 have hstay : ∀ q j, ¬ (q = r /\ A.length <= j /\ j < A.length + O.length) -> q ≠ m -> SamePl (SS env ps tmps vs w cs bs) s' q j := by
  intro q j hne hqm;have hheap : ∀ b ∈ bs q (j + 1), w'.heap[b]? = w.heap[b]? := fun b hb => hwo b (fun e => by
   subst e;have := hrel.disj _ _ _ _ _ hb hBown;omega)
  by_cases hqr : q = r
  ·subst hqr;have hj : ¬ (A.length <= j /\ j < A.length + O.length) := fun h => hne ⟨rfl, h⟩;obtain ⟨k1, k2⟩ := hcr j hj;refine ⟨fun lf u ⟨o1, o2, o3⟩ => ⟨?_, o2, by grind⟩, ?_, hheap⟩
   ·rw [eer];rw [e1] at o1;simp only [AV.leaf?, Y1] at o1 ⊢;rw [k2]; exact o1
   ·grind
  ·have hs4 := hsame q (by simp; exact ⟨hqr, hqm⟩);exact ⟨fun lf u ho => ho.chg hs4.1 hs4.2.2.1, hs4.2.2.2 ▸ rfl, hheap⟩
 have hptr : ∀ q, q ≠ m -> SamePtr (SS env ps tmps vs w cs bs) s' q := by
  intro q hqm;by_cases hqr : q = r
  ·subst hqr;exact ⟨rfl, fun e' ls he => ⟨e, _, eer⟩⟩
  ·have hs4 := hsame q (by simp; exact ⟨hqr, hqm⟩);exact SamePtr.chg hs4.1 hs4.2.1
 have hLr : ∀ q, (∀ p ∈ (ovl env ps q).refs, ¬ (p.1 = r /\ A.length <= p.2 /\ p.2 < A.length + O.length) /\ p.1 ≠ m) /\ (∀ p ∈ (ovl env ps q).ptrs, p ≠ m) := by
  intro q;refine ⟨fun p hp => ⟨fun hc => ?_, by have := (hno q).1 p hp; omega⟩, fun p hp => by grind⟩;obtain ⟨lf, u, o1, o2, _⟩ := (AVRel.refs_own (hrel.av q)).1 p hp;rw [hc.1, e1] at o1;simp only [AV.leaf?, Y1] at o1;rw [X7, Xd hc.2.1, Xp (by omega)] at o1;rw [hO lf (X8 o1)] at o2;simp at o2
 have hmain : Rel c s' := by
  refine Rel.step (s' := s') noG hrel (fun q => q = r \/ q = m) (fun q j => ¬ (q = r /\ A.length <= j /\ j < A.length + O.length) /\ q ≠ m) (fun q => q ≠ m) hsame (below_setRow (X1g _ _) (hrel.own _ _ _ hBown).1.1 _)
   (fun b hb hD => hwo b (fun e => hD r 0 (.inl rfl) (e ▸ hBown))) (fun q l b hD hb => ?_) (fun q1 l1 q2 l2 b hD hD' hb1 hb2 => ?_) (fun q l hD => ?_) (fun q _ => hLr q) (fun hkp => ⟨Yq hkp (fun q j hL => hstay q j hL.1 hL.2), Y15 hkp (fun q j hL => hstay q j hL.1 hL.2), fun q hL _ => hptr q hL⟩) (fun hkp q hD => ?_)
  ·have hsz : w'.heap.size = w.heap.size := setRow_size _ _ _;by_cases hqr : q = r
   ·subst hqr;rw [ebr] at hb;rw [hsz];rcases hbr l b hb with ⟨h5, _⟩ | ⟨h5, _⟩
    ·exact ⟨(hrel.own _ _ _ h5).2, .inr ⟨m, _, .inr rfl, h5⟩⟩
    ·exact ⟨(hrel.own _ _ _ h5).2, .inr ⟨q, _, .inl rfl, h5⟩⟩
   ·grind
  ·by_cases hq1 : q1 = r
   ·by_cases hq2 : q2 = r
    ·subst hq1; subst hq2;rw [ebr] at hb1 hb2;refine ⟨rfl, ?_⟩;rcases hbr l1 b hb1 with ⟨h5, h6⟩ | ⟨h5, h6⟩ <;> rcases hbr l2 b hb2 with ⟨h7, h8⟩ | ⟨h7, h8⟩ <;> have := hrel.disj _ _ _ _ _ h5 h7 <;> omega
    ·have e := hD'.resolve_left hq2;subst e;rw [ebm] at hb2; simp at hb2
   ·grind
  ·by_cases hqr : q = r
   ·subst hqr;rw [ebr];simp [br];split
    ·exact hrel.nodup _ _
    ·exact hrel.nodup _ _
   ·have e := hD.resolve_left hqr;subst e;rw [ebm]; exact X16
  ·by_cases hqr : q = r
   ·subst hqr;rw [eer];have etm : s'.tm q = tmps.getD q undef := e2;rw [etm];refine ⟨?_, ?_, fun l hl => ?_, fun l lf u hl hu => ?_⟩
    ·rw [ecr];have hml : (cs m).length = O.length := by omega
     refine ⟨Bk, g1, hw', ?_, g5.1, fun l hl => ?_⟩
     case refine_2 =>
      have g5 : (cs q)[l]? = some (c.pinC l) := g5.2 l hl;rw [<- g5];show ((cs q).take A.length ++ cs m ++ (cs q).drop (A.length + O.length))[l]? = _;by_cases hlt : l < A.length
      ·grind
      ·have hge : A.length + O.length <= l := by
        apply X1o;intro h';have := hfr l (by omega) h';rw [this] at hl; cases hl
       rw [Xd (by rw [Xk, Xm, hml]; omega), X1l];congr 1;rw [Xk, Xm, hml];omega
     rw [ebr];show (if A.length < 0 /\ _ then _ else bs q 0) = [Bk];rw [X2 (by omega)];exact g3
    ·grind
    ·grind
    ·rw [ecr] at hu;rw [Y1] at hl;by_cases hin : A.length <= l /\ l < A.length + O.length
     ·have hu2 : (cs m)[l - A.length]? = some u := by
       have hu : ((cs q).take A.length ++ cs m ++ (cs q).drop (A.length + O.length))[l]? = some u := hu;rw [X7, Xd (by rw [Xm]; omega), Xp (by rw [Xm]; omega)] at hu;rw [<- hu];congr 1;rw [Xm];omega
      rw [X7, Xd hin.1, Xp (by omega)] at hl;obtain ⟨lv, ⟨hm1, hpin⟩, hrep⟩ := m5 _ lf u hl hu2;obtain ⟨t, x, mm⟩ := lf;subst hm1;refine LeafRel.of_rep hpin ?_;have eb : s'.bs q (l + 1) = bs m (l - A.length + 1) := by
       rw [ebr];show (if A.length < l + 1 /\ l + 1 <= A.length + O.length then bs m (l + 1 - A.length) else _) = _;rw [X4 (by omega)];congr 1;omega
      rw [eb];exact Rep.move (fun b hb hl => hkp b hb hl) (fun b hb => hwo b (fun e => by
       subst e;exact hrm (hrel.disj _ _ _ _ _ hBown hb).1)) hrep
     ·obtain ⟨k1, k2⟩ := hcr l hin;rw [k1] at hu;rw [k2, <- Y1] at hl;have h6 := h4 l lf u hl hu;have := h6.chg (g := noG) (r' := q) hkp (Yq hkp (fun q' j' (hL : ¬ (q' = q /\ A.length <= j' /\ j' < A.length + O.length) /\ q' ≠ m) => hstay q' j' hL.1 hL.2)) (fun p hp => (hLr q).1 p (by
       rw [show ovl env ps q = _ from e1];simp only [AV.refs, Xj];exact ⟨lf, Yb hl, hp⟩)) (by rw [ebr]; show (if A.length < l + 1 /\ l + 1 <= A.length + O.length then _ else bs q (l + 1)) = _; rw [X2 (by omega)]) (fun b hb => hwo b (fun e => by
       subst e;have := hrel.disj _ _ _ _ _ hb hBown;omega))
      have hno1 : lf.chg noG = lf := by obtain ⟨t, x, m⟩ := lf; cases m <;> rfl
      rw [hno1] at this;exact this
   ·have e := hD.resolve_left hqr;subst e;rw [eem];intro l;rw [ebm]
 refine ⟨by rw [Y5]; exact hlen, _, _, Rel.congr hmain ?_ rfl, fun q => ?_⟩
 ·rw [Yu hrl, Yd hm]
 ·rw [Yu hrl, Yd hm, Y5];by_cases hqr : q = r
  ·subst hqr;rw [Y0];refine ⟨fun p hp => ?_, by simp [AV.ptrs]⟩;simp only [AV.refs, Xj] at hp;obtain ⟨lf, hlf, hp⟩ := hp;simp only [X5] at hlf;have old : lf ∈ A ++ O ++ B -> p.1 < env.length := fun hx => (hno q).1 p (by
    rw [show ovl env ps q = _ from e1];simp only [AV.refs, Xj];exact ⟨lf, hx, hp⟩)
   rcases hlf with (hlf | hlf) | hlf
   ·grind
   ·have := hsN lf hlf;obtain ⟨t, x, mm⟩ := lf;cases mm with
    | at_ _ => simp [Leaf.refs] at hp
    | bor _ _ _ => simp [Mode.settled] at this
    | dead => simp [Mode.settled] at this
   ·exact old (by simp [hlf])
  ·rw [Y2 _ _ hqr];by_cases hqm : q = m
   ·subst hqm; rw [Y0]; exact ⟨by simp [AV.refs], by simp [AV.ptrs]⟩
   ·rw [Y2 _ _ hqm]; exact hno q
end
section
variable {P : Program} {o : Oper} {a : Act} {w : World} {R : Type} {K : Env -> Option R} {r : R} {next : Act -> World -> Prop} {Q : Exit -> Act -> World -> Prop} {c : Cx} {d : Nat} {T : Tab} {env : Env}
theorem RP.giveUp_ (hs : ∀ r, Settled (ps r)) {q : Nat} : ∀ (ls : List Leaf) (j : Nat) {env : Env}, RP c env tmps w ps vs -> q < env.length -> (giveUp q j ls env).length = env.length /\ RP c (giveUp q j ls env) tmps w ps vs
 | [], j, env, h, hq => ⟨rfl, h⟩
 | l :: ls, j, env, h, hq => by
  unfold giveUp;split
  ·have hl := (Y3r q j env).2;have h1 := h.freezeAll [⟨.unit, (), .bor q j []⟩] (fun l hl p hp => by
    rw [Xb.1 hl] at hp;simp [Leaf.refs] at hp;rw [hp];exact hq) hs
   have e : FP.freezeAll [⟨.unit, (), .bor q j []⟩] env = freeze q j env := rfl;rw [e] at h1;obtain ⟨k1, k2⟩ := RP.giveUp_ hs ls (j + 1) h1 (by rw [hl]; exact hq);exact ⟨k1.trans hl, k2⟩
  ·exact RP.giveUp_ hs ls (j + 1) h hq
theorem Y54 {env' : Env} {N : Nat} (hdst : o.dst = none) (hrun : (execOp a.eval o).run P w = .ok .skip w') (hN : env'.length = N) (h : RP c env' a.tmps w' ps vs) (hps : ∀ r, ps r = .undef) (hK : K env' = some r) (hn : Next c a K r N next) : o.wp P a w next Q := by
 unfold Oper.wp;rw [hrun];show next (a.put o.dst undef) w'
 rw [hdst];have e : ps = noP := by funext r; exact hps r
 subst e;exact hn _ _ _ hK ⟨vs, h⟩ hN rfl
theorem Ybe {e : BoxK} {off : Nat} : ∀ {n : Nat}, e.free off n = true -> ∀ l, l < n -> nthB e.fix (off + l) = false
 | 0, _, l, hl => by omega
 | n + 1, h, l, hl => by
  simp [BoxK.free] at h;by_cases e' : l = n
  ·grind
  ·exact Ybe h.2 l (by omega)
theorem Y8y (hT : TabOk P T) {t : TypeId} {x v : Operand} {env1 : Env} {q off : Nat} {e : BoxK} {old2 : List Leaf} {sub : List Leaf} (hop : o.op = .store t x v) (hdst : o.dst = none) (hr : RE c env a.tmps w) (ht : T.ty t = some τ) (hta : takeAs τ env v = some (env1, ls)) (hx : rd none env1 x = .path q off)
  (h2 : get (giveUp q off sub env1) q = .con (.box e) old2) (hle : off + τ.sz <= old2.length) (hown : ((takeLs τ.sz (dropLs off old2)).all fun l => !l.m.own) = true) (hfree : e.free off τ.sz = true) (hK : K (put (giveUp q off sub env1) q (.con (.box e) (setLeaves old2 off ls))) = some r) (hn : Next c a K r env.length next) : o.wp P a w next Q := by
 obtain ⟨hti, hty⟩ := Y23 hta;have hll := Y1b hty;obtain ⟨vs, h⟩ := hr;obtain ⟨hl, h1⟩ := Y17 h (fun r => .inl rfl) hti (Xi _) rfl;have hset := Yx hti;have hs1 : ∀ r, Settled (upd noP env.length (.con τ.kind ls) r) := Settled.upd (fun r => .inl rfl) _ (.inr ⟨_, _, rfl, hset⟩)
 -- the address
 have hptr : ∃ B, a.tmps.getD q undef = .pointer (some ⟨B, 0, none⟩) /\ evT a.tmps x = .pointer (some ⟨B, off, none⟩) /\ q < env1.length := by
  obtain ⟨cs, bs, hrel, _⟩ := h1.rel;obtain ⟨cells, hv⟩ := Yl h1.len hrel none x;rw [hx] at hv;obtain ⟨e', ls', B, k1, k2, k3⟩ := hv;have hq : q < env1.length := by
   have := (Y69 h1 none x).2 q (by rw [hx]; simp [AV.ptrs]);exact this
  refine ⟨B, ?_, k3, hq⟩;have e2 : ovlT a.tmps (upd vs env.length (evT a.tmps v)) q = a.tmps.getD q undef := X4 (by have := h1.len; omega);rw [<- e2];exact k2
 obtain ⟨B, b1, b2, hq⟩ := hptr;obtain ⟨hl2, h3⟩ := RP.giveUp_ hs1 sub off h1 hq
 -- the old content, cut in three
 have ec := Y9n old2 off τ.sz hle;rw [Yn, Yo] at hown;rw [ec] at h2;have hlA : (old2.take off).length = off := by grind
 have hlO : ((old2.drop off).take τ.sz).length = τ.sz := by grind
 obtain ⟨Bk, cur, g1, g2, g3, g4, g5, g6⟩ := h3.storeBox (m := env.length) (by omega) (fun q hq => Y2 _ _ hq) h2 (fun l hl => by simpa using Xa.1 hown l hl) (Y0 _ _ _) (Y1k τ) hset (by rw [hlO, hll]) (fun l h1 h2 => by
  rw [hlA] at h1 h2;rw [hlO] at h2;have := Ybe hfree (l - off) (by omega)
  rwa [show off + (l - off) = l by omega] at this)
 rw [hlA, hlO] at g6;rw [Y0] at g4 g5 g6;have : Bk = B := by grind
 subst this;rw [hlA, hlO] at g3;have esl : old2.take off ++ ls ++ old2.drop (off + τ.sz) = setLeaves old2 off ls := by rw [Y41 _ _ _ (by omega), hll]
 rw [esl] at g6;refine Y54 hdst (w' := w.setRow Bk (cur.toList.take off ++ (evT a.tmps v).cells.toList ++ cur.toList.drop (off + τ.sz)).toArray) ?_ (by rw [Y5, hl2, hl]) g6 (fun r => ?_) hK hn
 ·have hsize := TabOk.sizeOf hT ht;have hcs : (evT a.tmps v).cells.size = τ.sz := by grind
  have hst := run_storeCells_at (P := P) Bk off e.id (evT a.tmps v).cells.toList 0 cur w g2 (by grind) g5;rw [X2f, g4, hll] at hst;simp [execOp, hop, Y6, b2, Instr.storeAt, Instr.sureAddr, storeVar, hsize, hcs, hst]
 ·by_cases hr : r = env.length
  ·subst hr; rw [Y0]
  ·rw [Y2 _ _ hr, Y2 _ _ hr]; rfl
end
section
variable {P : Program} {o : Oper} {a : Act} {w : World} {R : Type} {K : Env -> Option R} {r : R} {next : Act -> World -> Prop} {Q : Exit -> Act -> World -> Prop} {c : Cx} {d : Nat} {T : Tab} {env : Env}
theorem TabOk.fnZero (hT : TabOk P T) (h : T.isFn e = true) (w : World) : ∃ z, (zeroValue e).run P w = .ok z w /\ z.oneCell' = true := by
 obtain ⟨i, z, ps, rs, v, h1, h2, h3, h4, h5⟩ := TabOk.fn hT h;exact ⟨z, by simp [zeroValue, typeInfo, h1, h3], h4⟩
theorem TabOk.fnSize (hT : TabOk P T) (h : T.isFn e = true) (w : World) : (Go.sizeOf e).run P w = .ok 1 w := by
 obtain ⟨i, z, ps, rs, v, h1, h2, h3, h4, h5⟩ := TabOk.fn hT h;simp [Go.sizeOf, typeInfo, h1, h2]
theorem TabOk.fnAgg (hT : TabOk P T) (h : T.isFn e = true) (w : World) : (Go.isAgg e).run P w = .ok false w := by
 obtain ⟨i, z, ps, rs, v, h1, h2, h3, h4, h5⟩ := TabOk.fn hT h;unfold Go.isAgg;simp [run_underlying h5]
theorem Ycz {z : Value} (h : z.oneCell' = true) : z.cells = #[z] := by
 cases z <;> first | rfl | simp [Value.oneCell'] at h
theorem Yav (hT : TabOk P T) (hop : o.op = .alloc e) (hdst : o.dst = some d) (hr : RE c env a.tmps w) (hd : d < env.length) (he : T.isFn e = true) (hK : K (setD (some d) env (.con (.box ⟨e, false, []⟩) [⟨.bool, false, .dead⟩])) = some r) (hn : Next c a K r env.length next) : o.wp P a w next Q := by
 obtain ⟨z, hz, hz1⟩ := hT.fnZero he w;obtain ⟨vs, h⟩ := hr;have h1 := h.reform (n := env.length) (m := env.length) (Xi _) (Xi _) (av := .con (.box ⟨e, false, []⟩) [⟨.bool, false, .dead⟩]) (v := .pointer (some ⟨w.heap.size, 0, none⟩)) (w' := w.alloc (.cells #[z] e (0, 0))) ⟨by simp [AV.refs, Leaf.refs], by simp [AV.ptrs]⟩ (fun cs bs hrel => ?_)
 ·refine fin hdst (v := .pointer (some ⟨w.heap.size, 0, none⟩)) (w' := w.alloc (.cells #[z] e (0, 0))) ?_ hd rfl (by rw [Yf] at h1; exact h1) (Y0 _ _ _) hK hn;simp [execOp, hop, Instr.alloc, hz, newVar, newRow, newObj, Sem.run, Ycz hz1]
  try rfl
 ·refine ⟨(Yv _ _).mono hrel.base, fun b hb _ => (Yv _ _).block b hb, [z], fun l => if l = 0 then [w.heap.size] else [], fun l b hb => ?_, fun l l' b hb hb' => ?_, fun l => ?_, fun hkeep => ?_⟩
  ·simp_all
  ·grind
  ·grind
  ·refine ⟨⟨w.heap.size, rfl, ?_, by simp [upd, nthB]⟩, by simp only [Y0]; rfl, fun l hl => ?_, fun l lf u hl hu => ?_⟩
   ·simp only [Y0];exact Y4o _ _
   ·simp only [Y0];rw [X2 (by omega)]
   ·simp [Y0] at hu;have hl0 : l = 0 := by grind
    subst hl0;have hu : z = u := by simpa using hu
    have hl : (⟨.bool, false, .dead⟩ : Leaf) = lf := by simpa [leafAt] using hl
    subst hl; subst hu;refine ⟨?_, hz1⟩;simp only [Y0];rfl
theorem Ybs (hT : TabOk P T) {t : TypeId} {caps : List Cap} (hop : o.op = .load t x) (hdst : o.dst = some d) (hr : RE c env a.tmps w) (hd : d < env.length) (ht : T.isFn t = true) (hx : rd none env x = .fptr f caps) (hK : K (setD (some d) env (.cloS f caps)) = some r) (hn : Next c a K r env.length next) : o.wp P a w next Q := by
 have hrefs := hr.refs none x;rw [hx] at hrefs;have main : ∀ vs cs bs, Rel c (SS env noP a.tmps vs w cs bs) -> ∃ us, SelfAt c (SS env noP a.tmps vs w cs bs) f caps (evT a.tmps x) us := by
  intro vs cs bs hrel;obtain ⟨cells, hv⟩ := hr.val none x vs cs bs hrel;rw [hx] at hv;exact hv
 obtain ⟨vs, h0⟩ := hr;have hr : RE c env a.tmps w := ⟨vs, h0⟩;obtain ⟨cs, bs, hrel, hno⟩ := h0.rel;obtain ⟨us, B, k1, k2, k3, k4, k5⟩ := main vs cs bs hrel;have k4 : w.cell? ⟨B, 0, none⟩ = some (.func (.func f) #[] us.toArray) := k4;refine finV (av := .cloS f caps) hr hdst (v := .func (.func f) #[] us.toArray) ?_ hd (fun vs cs bs hrel => ?_) ⟨by simp [AV.refs], hrefs.2⟩ hK hn
 ·simp [execOp, hop, Y6, k1, Instr.loadAt, Instr.sureAddr, loadVar, TabOk.fnAgg hT ht, load, Sem.run, k4]
 ·obtain ⟨us', B', j1, j2, j3, j4, j5⟩ := main vs cs bs hrel;rw [k1] at j1;have e1 : B = B' := by simpa using j1
  subst e1;have j4' : w.cell? ⟨B, 0, none⟩ = some (.func (.func f) #[] us'.toArray) := j4;rw [k4] at j4';have e2 : us = us' := by grind
  subst e2;exact ⟨[], evT a.tmps x, us, rfl, B, k1, j2, j3, j4, j5⟩
theorem Y6y {cs : List Cap} (hop : o.op = .nilCheck x) (hdst : o.dst = some d) (hr : RE c env a.tmps w) (hd : d < env.length) (hx : rd none env x = .cloS f cs) (hK : K (setD (some d) env (.cloS f cs)) = some r) (hn : Next c a K r env.length next) : o.wp P a w next Q := by
 obtain ⟨vs, h0⟩ := hr;have hr : RE c env a.tmps w := ⟨vs, h0⟩;obtain ⟨cs', bs, h1, _⟩ := h0.rel;obtain ⟨cells, hv⟩ := Yl h0.len h1 none x;rw [hx] at hv;obtain ⟨v0, us, g1, g2⟩ := hv;refine finV hr hdst (v := evT a.tmps x) ?_ hd (hx ▸ hr.val none x) (hx ▸ hr.refs none x) hK hn;simp [execOp, hop, Y6, g1]
theorem Ybt {caps : List Cap} (h : SelfAt c s f caps v us) : ValCs c s (caps.map (capAV f caps)) us := by
 have go : ∀ {cs : List Cap} {us' : List Value}, CapRels c s v cs us' -> ValCs c s (cs.map (capAV f caps)) us' := by
  intro cs
  induction cs with
  | nil => intro us' h; exact h
  | cons p cs ih =>
   intro us' ⟨u, us2, e, h1, h2⟩;refine ⟨u, us2, e, ?_, ih h2⟩;cases p with
   | path r off => exact ⟨[], h1⟩
   | ro x =>
    obtain ⟨v1, v2, e2, h3, h4⟩ := Y53 (c := c) (s := s) (xs := [x]) (vs := [u]) ⟨u, [], rfl, h1, rfl⟩;simp at e2;obtain ⟨rfl, _⟩ := e2;exact h3
   | self => obtain rfl : u = v := h1; exact ⟨[], us, h⟩
 obtain ⟨B, _, _, _, _, h5⟩ := h;exact go h5
theorem Ybu (f : FuncId) (caps : List Cap) (p : Cap) : (capAV f caps p).refs = [] := by
 cases p with
 | path r off => rfl
 | ro x => exact Y7c x
 | self => rfl
theorem Ybv (hT : TabOk P T) {t : TypeId} {x v : Operand} {K : Env -> Option R} (hop : o.op = .store t x v) (hdst : o.dst = none) (hr : RE c env a.tmps w) (ht : T.isFn t = true) (hK : storeFn t x v env K = some r) (hn : Next c a K r env.length next) : o.wp P a w next Q := by
 unfold storeFn at hK;split at hK
 ·rename_i q f cs hx hv;split at hK
  ·rename_i e t0 x0 hg;split at hK
   ·rename_i hself;obtain ⟨vs, h0⟩ := hr;have hr : RE c env a.tmps w := ⟨vs, h0⟩;have hrefs := hr.refs none v;rw [hv] at hrefs;obtain ⟨cs0, bs, hrel, hno⟩ := h0.rel;have hqe : q < env.length := Yw hg;obtain ⟨_, hvx⟩ := Yl h0.len hrel none x;rw [hx] at hvx;obtain ⟨e', ls', B', p1, p2, p3⟩ := hvx;obtain ⟨_, hvv⟩ := Yl h0.len hrel none v;rw [hv] at hvv;obtain ⟨us, u1, u2⟩ := hvv;have hav := hrel.av q;rw [show (SS env noP a.tmps vs w cs0 bs).env q = .con (.box e) [⟨t0, x0, .dead⟩] by show ovl env noP q = _; rw [Y8 hqe]; exact hg] at hav;obtain ⟨⟨B, g1, g2, g3, _⟩, h2, h3, h4⟩ := hav;have hBB : B' = B := by grind
    subst hBB;have g2 : w.heap[B']? = some (.cells (cs0 q).toArray e.id (0, 0)) := g2;have g3 : bs q 0 = [B'] := g3;have hBin : B' ∈ bs q 0 := by rw [g3]; simp
    have hlc : (cs0 q).length = 1 := by rw [<- h2]; rfl
    let fv : Value := .func (.func f) #[] us.toArray
    let w' := w.setRow B' #[fv]
    have hw' : w'.heap[B']? = some (.cells #[fv] e.id (0, 0)) := setRow_heap w B' _ _ e.id (0, 0) g2;have hwo : ∀ b, b ≠ B' -> w'.heap[b]? = w.heap[b]? := fun b hb => setRow_other w B' b _ hb
    let caps : List Cap := cs.map fun c => if c.1 = q then Cap.self else Cap.path c.1 c.2
    let E : Nat -> AV := upd (chgE (killG q) (ovl env noP)) q (.fptr f caps)
    have hk0 := hrel.killRoot_ q;obtain ⟨hk1, hk2⟩ := hk0;have hown := hrel.own _ _ _ hBin;have hre := hk1.reform (n := q) (m := q) (w' := w') (fun r' => ⟨fun q' hq' => ⟨(hk2 r').1 q' hq', (hk2 r').1 q' hq'⟩, fun q' hq' => ⟨(hk2 r').2 q' hq', (hk2 r').2 q' hq'⟩⟩) (below_setRow (X1g _ _) hown.1.1 _) (fun b hb hne => hwo b (fun e => hne 0 (by rw [e]; exact hBin))) (.fptr f caps) (.pointer (some ⟨B', 0, none⟩)) (cs0 q) (fun _ => []) (fun l b hb => by simp at hb) (fun l l' b hb => by simp at hb) (fun l => X16) (fun hkeep => ?_)
    ·have e1 : upd (upd (chgE (killG q) (ovl env noP)) q .undef) q (.fptr f caps) = ovl (put (killRoot q env) q (.fptr f caps)) noP := by
      rw [Yf];have hl1 : (killRoot q env).length = env.length := Ya q env;rw [Yu (by simp_all)];unfold killRoot;rw [Yu (by rw [Y7]; exact hqe), Yf, Y20 _ _ noP (fun _ => .inl rfl)]
     have e2 : upd (ovlT a.tmps vs) q (.pointer (some ⟨B', 0, none⟩)) = ovlT a.tmps vs := by
      funext r';by_cases hr' : r' = q
      ·subst hr'; rw [Y0]; exact g1.symm
      ·rw [Y2 _ _ hr']
     have hfin : RP c (put (killRoot q env) q (.fptr f caps)) a.tmps w' noP vs := by
      have hlen : (put (killRoot q env) q (.fptr f caps)).length = env.length := by rw [Y5, Ya]
      refine ⟨by rw [hlen]; exact h0.len, _, _, Rel.congr hre e1 e2, fun r' => ?_⟩;rw [<- e1, Yf, hlen];by_cases hr' : r' = q
      ·subst hr';rw [Y0];refine ⟨by simp [AV.refs], fun q' hq' => ?_⟩;have : ∀ (L : List (Nat × Nat)) (q' : Nat), q' ∈ capRoots (L.map fun c => if c.1 = r' then Cap.self else Cap.path c.1 c.2) -> q' ∈ L.map (·.1) := by
        intro L
        induction L with
        | nil => intro q' h; simp [capRoots] at h
        | cons p L ih =>
         intro q' h;simp [capRoots] at h;rcases h with h | h
         ·split at h
          ·simp [Cap.roots] at h
          ·simp [Cap.roots] at h; subst h; simp
         ·exact X3 _ (ih _ h)
       exact hrefs.2 q' (this cs q' hq')
      ·rw [Y2 _ _ hr'];have hf := Y10 q;refine ⟨fun q' hq' => (hno r').1 q' ((Yj (Y10 q) _).1 q' hq'), fun q' hq' => (hno r').2 q' ((Yj (Y10 q) _).2 q' hq')⟩
     refine Y54 hdst (w' := w') (ps := noP) ?_ (by rw [Y5, Ya]) hfin (fun _ => rfl) hK hn;have hst := run_storeCells_at (P := P) B' 0 e.id [fv] 0 (cs0 q).toArray w g2 (by simp [hlc]) (fun u hu => by rw [Xb.1 hu]; rfl);have e3 : (cs0 q).toArray.toList.take 0 ++ [fv] ++ (cs0 q).toArray.toList.drop (0 + 1) = [fv] := by
      have : (cs0 q).drop 1 = [] := List.drop_eq_nil_iff.2 (by omega);simp [this]
     simp only [List.length_singleton, X2f] at hst;rw [e3] at hst;have hsz := TabOk.fnSize hT ht w;have hst2 : (storeCells ⟨B', 0, none⟩ [.func (.func f) #[] us.toArray]).run P w = .ok () w' := hst;simp [execOp, hop, Y6, p3, u1, Instr.storeAt, Instr.sureAddr, storeVar, hsz, Value.cells, hst2]
    ·have eq0 : (upd (upd bs q (fun _ => [])) q (fun _ => [])) = upd bs q (fun _ => []) := Yf _ _ _ _;refine ⟨fun l => ?_, us, B', rfl, ⟨fun r' l hm => ?_, .inr hown.1⟩, ?_, ?_, ?_⟩
     ·show (upd (upd bs q (fun _ => [])) q (fun _ => [])) q l = [];rw [Y0]
     ·have hm : B' ∈ (upd (upd bs q (fun _ => [])) q (fun _ => [])) r' l := hm;rw [eq0] at hm;by_cases hr' : r' = q
      ·subst hr'; rw [Y0] at hm; simp at hm
      ·rw [Y2 _ _ hr'] at hm;exact hr' (hrel.disj _ _ _ _ _ hBin hm).1.symm
     ·grind
     ·show w'.cell? ⟨B', 0, none⟩ = _;unfold World.cell?;rw [show w'.heap[(⟨B', 0, none⟩ : Addr).block]? = _ from hw'];rfl
     ·have go : ∀ (L : List (Nat × Nat)) (us : List Value), (L.all fun c => !(c.1 == q) || c.2 == 0) = true -> PtrRels (SS env noP a.tmps vs w cs0 bs) L us -> CapRels c ⟨upd (upd (chgE (killG q) (ovl env noP)) q .undef) q (.fptr f caps), upd (ovlT a.tmps vs) q (.pointer (some ⟨B', 0, none⟩)), w', upd cs0 q (cs0 q), upd (upd bs q (fun _ => [])) q (fun _ => [])⟩ (.pointer (some ⟨B', 0, none⟩)) (L.map fun c => if c.1 = q then Cap.self else Cap.path c.1 c.2) us := by
       intro L
       induction L with
       | nil => intro us _ h; exact h
       | cons p L ih =>
        intro us hall ⟨u, us', e1, h5, h6⟩;rw [List.all_cons, X9] at hall;refine ⟨u, us', e1, ?_, ih us' hall.2 h6⟩;obtain ⟨e5, ls5, B5, i1, i2, i3⟩ := h5;by_cases hp : p.1 = q
        ·simp [hp];have hoff : p.2 = 0 := by simpa [hp] using hall.1
         rw [hp] at i2;have i2 : ovlT a.tmps vs q = .pointer (some ⟨B5, 0, none⟩) := i2;have g1 : ovlT a.tmps vs q = .pointer (some ⟨B', 0, none⟩) := g1;rw [g1] at i2;have : B' = B5 := by simpa using i2
         subst this;show u = _;rw [i3, hoff]
        ·simp [hp];refine ⟨e5, chgs (killG q) ls5, B5, ?_, ?_, i3⟩
         ·show upd (upd (chgE (killG q) (ovl env noP)) q .undef) q (.fptr f caps) p.1 = _;rw [Yf, Y2 _ _ hp];show (ovl env noP p.1).chg (killG q) = _;have i1 : ovl env noP p.1 = .con (.box e5) ls5 := i1;rw [i1]; rfl
         ·show upd (ovlT a.tmps vs) q _ p.1 = _;rw [Y2 _ _ hp]; exact i2
      exact go cs us hself u2
   ·simp at hK
  ·simp at hK
 ·simp at hK
end
theorem Y7h (q j : Nat) (n : Leaf) : Fewer (syncG q j n) := fun r j' p l => by
 simp [syncG];split
 ·cases p with
  | nil => exact .inr rfl
  | cons a p => exact .inl rfl
 ·exact .inr rfl
theorem Y7i {g : Chg} (h : lf.m.own = true) : lf.chg g = lf := by
 obtain ⟨t, x, m⟩ := lf;cases m with
 | at_ lv => rfl
 | bor _ _ _ => simp [Mode.own] at h
 | dead => rfl
theorem Y9s (h : lv.deep = true) : (Mode.at_ lv).own = true := by cases lv <;> first | rfl | simp [Lvl.deep] at h
theorem RP.syncAt (hlen : env.length = tmps.size) (hrel : Rel c (SS env ps tmps vs w cs bs)) (hno : ∀ r, (∀ q ∈ (ovl env ps r).refs, q.1 < env.length) /\ (∀ q ∈ (ovl env ps r).ptrs, q < env.length)) {m : Nat} (hs : ∀ r, r ≠ m -> Settled (ps r)) (hm : env.length <= m) {q j : Nat} {x y : t.D} (hl : (get env q).leaf? j = some ⟨t, x, .at_ lv⟩) (hlv : lv.deep = true) (hu : (cs q)[j]? = some u) {bd : List Nat} (hbel : Below c.base w w') (hheap : ∀ b, b < w.heap.size -> b ∉ bs q (j + 1) -> (∀ l, b ∉ bs m l) -> w'.heap[b]? = w.heap[b]?)
   (hbd1 : ∀ b ∈ bd, b < w'.heap.size /\ (w.heap.size <= b \/ b ∈ bs q (j + 1) \/ ∃ l, b ∈ bs m l)) (hbd2 : bd.Nodup) (hrep : Rep (fun _ => False) w' t .dp [u] y bd) :
  ∃ bs', Rel c (SS (syncPlace q j ⟨t, y, .at_ lv⟩ env) (upd ps m .undef) tmps vs w' cs bs') /\ (∀ r, (∀ q' ∈ (ovl (syncPlace q j ⟨t, y, .at_ lv⟩ env) (upd ps m .undef) r).refs, q'.1 < (syncPlace q j ⟨t, y, .at_ lv⟩ env).length) /\ (∀ q' ∈ (ovl (syncPlace q j ⟨t, y, .at_ lv⟩ env) (upd ps m .undef) r).ptrs, q' < (syncPlace q j ⟨t, y, .at_ lv⟩ env).length)) /\ bs' q (j + 1) = bd := by
 have hql : q < env.length := Y1p hl;have hqm : q ≠ m := X1k (X1e hql hm);obtain ⟨k, ls0, hv0⟩ : ∃ k ls, get env q = .con k ls := by
  cases hv : get env q with
  | con k ls => exact ⟨k, ls, rfl⟩
  | _ => rw [hv] at hl; simp [AV.leaf?] at hl
 have hl0 : leafAt ls0 j = some ⟨t, x, .at_ lv⟩ := by rw [hv0] at hl; exact hl
 have hjl : j < ls0.length := by rw [Y1] at hl0; exact (X6.1 hl0).1
 have e1 : (SS env ps tmps vs w cs bs).env q = .con k ls0 := by show ovl env ps q = _; rw [Y8 hql, hv0]
 have e2 : (SS env ps tmps vs w cs bs).tm q = tmps.getD q undef := X4 (by omega);have hav := hrel.av q;rw [e1, e2] at hav;obtain ⟨g1, g2, g3, g4⟩ := hav;have g2 : ls0.length = (cs q).length := g2;have g3 : ∀ l, ls0.length <= l -> bs q (l + 1) = [] := g3;have g4 : ∀ l lf u, leafAt ls0 l = some lf -> (cs q)[l]? = some u -> LeafRel c (SS env ps tmps vs w cs bs) q l u lf := g4
 let nl : Leaf := ⟨t, y, .at_ lv⟩
 let g : Chg := syncG q j nl
 let bq : Nat -> List Nat := fun l => if l = j + 1 then bd else bs q l
 let s : St := SS env ps tmps vs w cs bs
 let s' : St := ⟨upd (upd (chgE g (ovl env ps)) m .undef) q (.con k (setAt (chgs g ls0) j nl)), ovlT tmps vs, w', cs, upd (upd bs m (fun _ => [])) q bq⟩
 have ebq : s'.bs q = bq := Y0 _ _ _;have eeq : s'.env q = .con k (setAt (chgs g ls0) j nl) := Y0 _ _ _;have ebm : s'.bs m = fun _ => [] := by show upd _ _ _ m = _; rw [Y2 _ _ (Ne.symm hqm), Y0]
 have eem : s'.env m = .undef := by show upd _ _ _ m = _; rw [Y2 _ _ (Ne.symm hqm), Y0]
 have hbqj : s'.bs q (j + 1) = bd := by rw [ebq]; exact X4 rfl
 have hsame : ∀ p, ¬ (p = q \/ p = m) -> s'.env p = (s.env p).chg g /\ s'.tm p = s.tm p /\ s'.cs p = s.cs p /\ s'.bs p = s.bs p := fun p hp => by
  simp only [X2v] at hp;refine ⟨?_, rfl, rfl, ?_⟩
  ·show upd _ _ _ p = _; rw [Y2 _ _ hp.1, Y2 _ _ hp.2]; rfl
  ·show upd _ _ _ p = _; rw [Y2 _ _ hp.1, Y2 _ _ hp.2]
 have hne : ∀ (p l b : Nat), p ≠ m -> ¬ (p = q /\ l = j + 1) -> b ∈ bs p l -> w'.heap[b]? = w.heap[b]? := fun p l b hpm hp hb =>
  hheap b (hrel.own _ _ _ hb).2 (fun hb2 => hp (hrel.disj _ _ _ _ _ hb hb2)) (fun l' hb2 => hpm (hrel.disj _ _ _ _ _ hb hb2).1)
 have hstay : ∀ p i, ¬ (p = q /\ i = j) -> p ≠ m -> SamePl s s' p i := by
  intro p i hpi hpm;have hh : ∀ b ∈ bs p (i + 1), w'.heap[b]? = w.heap[b]? := fun b hb => hne p (i + 1) b hpm (fun h => hpi ⟨h.1, by omega⟩) hb;by_cases hpq : p = q
  ·subst hpq;have hij : i ≠ j := fun h => hpi ⟨rfl, h⟩;refine ⟨fun lf u' ⟨o1, o2, o3⟩ => ⟨?_, o2, o3⟩, ?_, hh⟩
   ·rw [eeq];have o1 : (s.env p).leaf? i = some lf := o1;rw [show s.env p = _ from e1] at o1;simp only [AV.leaf?] at o1 ⊢;rw [Y1, Y9, X10 (Ne.symm hij), <- Y1, Yh, o1, X1w, Y7i o2]
   ·rw [ebq];exact X2 (by omega)
  ·have hs4 := hsame p (by simp only [X2v]; exact ⟨hpq, hpm⟩);exact ⟨fun lf u' ho => ho.chg hs4.1 hs4.2.2.1, hs4.2.2.2 ▸ rfl, hh⟩
 have hownq : OwnPlace s' q j nl u := ⟨by rw [eeq]; simp only [AV.leaf?]; rw [Y1, Y9, X1m (by rw [Yr]; exact hjl)], Y9s hlv, hu⟩;have hptr : ∀ p, p ≠ m -> SamePtr s s' p := by
  intro p hpm;by_cases hpq : p = q
  ·subst hpq;refine ⟨rfl, fun e ls he => ?_⟩;rw [show s.env p = _ from e1] at he;simp only [AV.con.injEq] at he;rw [he.1] at eeq;exact ⟨e, _, eeq⟩
  ·have hs4 := hsame p (by simp only [X2v]; exact ⟨hpq, hpm⟩);exact SamePtr.chg hs4.1 hs4.2.1
 have hLr : ∀ p, (∀ z ∈ (s.env p).refs, z.1 ≠ m) /\ (∀ z ∈ (s.env p).ptrs, z ≠ m) := fun p =>
  ⟨fun z hz => by have := (hno p).1 z hz; omega, fun z hz => by have := (hno p).2 z hz; omega⟩
 have hgL : Keeps c s s' -> ChgLeaf c s s' g (fun p _ => p ≠ m) := by
  intro hk u' t' x' p i pa hpm hbor;show (Leaf.m (if p = q /\ i = j then _ else _)).own = false /\ Held c s' u' (if p = q /\ i = j then _ else _);by_cases hpi : p = q /\ i = j
  ·obtain ⟨rfl, rfl⟩ := hpi;rw [X4 ⟨rfl, rfl⟩];cases pa with
   | nil =>
    refine ⟨rfl, ?_⟩;obtain ⟨_, ⟨lf', u2, ⟨o1, o2, o3⟩, h5⟩, _⟩ := hbor;obtain ⟨mm, _, rfl⟩ := h5 rfl;have hu2 : u2 = u := by
     have o3 : (cs p)[i]? = some u2 := o3;rw [hu] at o3;exact (Xs o3).symm
    subst hu2;refine ⟨?_, ⟨nl, u2, hownq, fun _ => ⟨_, rfl, rfl⟩⟩, fun _ _ hp => by simp at hp⟩;have hro := Rep.ro hrep;refine Rep.move (fun b hb _ => ⟨?_, rfl⟩) (by simp) hro;rcases hb with hb | hb
    ·exact absurd hb id
    ·exact .inr (by rw [hbqj]; exact hb)
   | cons z pa =>
    exact ⟨rfl, Rep.one hbor.1 u' (by simp)⟩
  ·rw [X2 hpi];exact ⟨rfl, hbor.keep hk (hstay p i hpi hpm)⟩
 have hgW : Keeps c s s' -> ChgWr c s s' g (fun p _ => p ≠ m) := by
  intro hk a p i pa ii oo hpm hw;by_cases hpi : p = q /\ i = j
  ·rw [X4 (show g.wf p i = true by simp [g, syncG, hpi])];exact .inl rfl
  ·rw [X2 (show ¬ g.wf p i = true by simpa [g, syncG] using hpi)];have := Y15 (L := fun p i => ¬ (p = q /\ i = j) /\ p ≠ m) hk (fun p i hL => hstay p i hL.1 hL.2) a p i pa ii oo ⟨hpi, hpm⟩ hw;simpa [noG] using this
 have hmain : Rel c s' := by
  refine Rel.step (s' := s') g hrel (fun p => p = q \/ p = m) (fun p _ => p ≠ m) (fun p => p ≠ m) hsame hbel
   (fun b hb hD => hheap b hb (hD q (j + 1) (.inl rfl)) (fun l => hD m l (.inr rfl))) (fun p l b hD hb => ?_) (fun p1 l1 p2 l2 b hD hD' hb1 hb2 => ?_) (fun p l hD => ?_) (fun p _ => hLr p) (fun hkp => ⟨hgL hkp, hgW hkp, fun p hL _ => hptr p hL⟩) (fun hkp p hD => ?_)
  ·by_cases hpq : p = q
   ·subst hpq;rw [ebq] at hb;by_cases hlj : l = j + 1
    ·rw [show bq l = bd from X4 hlj] at hb;obtain ⟨k1, k2⟩ := hbd1 b hb;refine ⟨k1, ?_⟩;rcases k2 with k2 | k2 | ⟨l', k2⟩
     ·exact .inl k2
     ·exact .inr ⟨p, _, .inl rfl, k2⟩
     ·exact .inr ⟨m, _, .inr rfl, k2⟩
    ·rw [show bq l = bs p l from X2 hlj] at hb;exact ⟨X1e (hrel.own _ _ _ hb).2 hbel.size, .inr ⟨p, _, .inl rfl, hb⟩⟩
   ·have e := hD.resolve_left hpq;subst e;rw [ebm] at hb; simp at hb
  ·by_cases hp1 : p1 = q
   ·by_cases hp2 : p2 = q
    ·subst hp1; subst hp2;rw [ebq] at hb1 hb2;refine ⟨rfl, ?_⟩;have key : ∀ l, l ≠ j + 1 -> b ∈ bs p2 l -> b ∈ bd -> False := by
      intro l hlj h1 h2;rcases (hbd1 b h2).2 with k2 | k2 | ⟨l', k2⟩
      ·have : b < w.heap.size := (hrel.own _ _ _ h1).2;omega
      ·exact hlj (hrel.disj _ _ _ _ _ h1 k2).2
      ·exact hqm (hrel.disj _ _ _ _ _ h1 k2).1
     by_cases h1 : l1 = j + 1 <;> by_cases h2 : l2 = j + 1
     ·omega
     ·rw [show bq l1 = bd from X4 h1] at hb1;rw [show bq l2 = bs p2 l2 from X2 h2] at hb2;exact (key l2 h2 hb2 hb1).elim
     ·rw [show bq l2 = bd from X4 h2] at hb2;rw [show bq l1 = bs p2 l1 from X2 h1] at hb1;exact (key l1 h1 hb1 hb2).elim
     ·rw [show bq l1 = bs p2 l1 from X2 h1] at hb1;rw [show bq l2 = bs p2 l2 from X2 h2] at hb2;exact (hrel.disj _ _ _ _ _ hb1 hb2).2
    ·have e := hD'.resolve_left hp2;subst e;rw [ebm] at hb2; simp at hb2
   ·have e := hD.resolve_left hp1;subst e;rw [ebm] at hb1; simp at hb1
  ·by_cases hpq : p = q
   ·subst hpq;rw [ebq];by_cases hlj : l = j + 1
    ·rw [show bq l = bd from X4 hlj]; exact hbd2
    ·rw [show bq l = bs p l from X2 hlj]; exact hrel.nodup _ _
   ·have e := hD.resolve_left hpq;subst e;rw [ebm]; exact X16
  ·by_cases hpq : p = q
   ·subst hpq;rw [eeq];have etm : s'.tm p = tmps.getD p undef := e2;rw [etm];have eb0 : s'.bs p 0 = bs p 0 := by rw [ebq]; exact X2 (by omega)
    refine ⟨?_, by rw [Y9, Xz, Yr]; exact g2, fun l hl' => ?_, fun l lf u' hl' hu' => ?_⟩
    ·rw [eb0];cases k with
     | val => exact g1
     | agg => exact g1
     | tup sh => exact g1
     | tupB i n sh =>
      obtain ⟨B, vs0, c0, c1, k1, k2, k3, k4, k5, k6⟩ := g1;have k5 : bs p 0 = [B] := k5;exact ⟨B, vs0, c0, c1, k1, k2, k3, (hne p 0 B hqm (fun h => by omega) (by rw [k5]; simp)).trans k4, k5, k6⟩
     | box e =>
      obtain ⟨B, k1, k2, k3, k9⟩ := g1;have k3 : bs p 0 = [B] := k3;exact ⟨B, k1, (hne p 0 B hqm (fun h => by omega) (by rw [k3]; simp)).trans k2, k3, k9⟩
    ·rw [Y9, Xz, Yr] at hl';rw [ebq];rw [show bq (l + 1) = bs p (l + 1) from X2 (by omega)];exact g3 l hl'
    ·have hu' : (cs p)[l]? = some u' := hu';rw [Y1, Y9] at hl';by_cases hlj : l = j
     ·subst hlj;rw [X1m (by rw [Yr]; exact hjl)] at hl';simp only [X0] at hl';subst hl';have : u' = u := by rw [hu] at hu'; exact (Xs hu').symm
      subst this;refine LeafRel.of_rep (g4 l _ u' hl0 hu).pin ?_;rw [hbqj];exact (Rep.deep hlv).2 (Rep.dpS hrep)
     ·rw [X10 (fun h => hlj h.symm), <- Y1, Yh] at hl';obtain ⟨lf0, hlf0, rfl⟩ := Xu.1 hl';refine (g4 l lf0 u' hlf0 hu').chg hkp (hgL hkp) (fun z hz => (hLr p).1 z (by
       rw [show s.env p = _ from e1];simp only [AV.refs, Xj];exact ⟨lf0, Yb hlf0, hz⟩)) (by rw [ebq]; exact X2 (by omega)) (fun b hb => hne p (l + 1) b hqm (fun h => hlj (by omega)) hb)
   ·have e := hD.resolve_left hpq;subst e;rw [eem];intro l;rw [ebm]
 have elen : (syncPlace q j nl env).length = env.length := by unfold syncPlace; rw [Y5, Y7]
 have eget : get (chgEnv g env) q = .con k (chgs g ls0) := by rw [Y16, hv0]; rfl
 have eE : s'.env = ovl (syncPlace q j nl env) (upd ps m .undef) := by
  rw [Yd (by rw [elen]; exact hm)];unfold syncPlace;rw [Yu (by rw [Y7]; exact hql), eget];funext p;show upd (upd _ _ _) q _ p = upd (upd _ _ _) m _ p;simp only [upd];by_cases hpq : p = q
  ·subst hpq; rw [X4 rfl, X2 hqm, X4 rfl]; rfl
  ·rw [X2 hpq, X2 hpq];by_cases hpm : p = m
   ·rw [X4 hpm, X4 hpm]
   ·rw [X2 hpm, X2 hpm];have h1 := congrFun (Y20 g env (upd ps m .undef) (fun r => by
     by_cases hr : r = m
     ·subst hr; rw [Y0]; exact .inl rfl
     ·rw [Y2 _ _ hr]; exact hs r hr)) p
    have h2 : ovl env (upd ps m .undef) p = ovl env ps p := by rw [Yd hm]; exact Y2 _ _ hpm
    have h3 : ovl (chgEnv g env) (upd ps m .undef) p = ovl (chgEnv g env) ps p := by rw [Yd (by rw [Y7]; exact hm)]; exact Y2 _ _ hpm
    rw [<- h3, <- h1, show chgE g (ovl env (upd ps m .undef)) p = (ovl env (upd ps m .undef) p).chg g from rfl, h2];rfl
 refine ⟨s'.bs, Rel.congr hmain eE rfl, fun p => ?_, hbqj⟩;rw [<- eE, elen];by_cases hpq : p = q
 ·subst hpq;rw [eeq];have h1 := Yj (Y7h p j nl) (.con k ls0);have h2 : ∀ z ∈ (AV.con k (chgs g ls0)).refs, z.1 < env.length := fun z hz => (hno p).1 z (by rw [show ovl env ps p = _ from e1]; exact h1.1 z hz);exact ⟨fun z hz => h2 z (Y3s (l := nl) rfl z hz), by simp [AV.ptrs]⟩
 ·by_cases hpm : p = m
  ·subst hpm; rw [eem]; exact ⟨by simp [AV.refs], by simp [AV.ptrs]⟩
  ·rw [(hsame p (by simp only [X2v]; exact ⟨hpq, hpm⟩)).1];have := Yj (Y7h q j nl) (ovl env ps p);exact ⟨fun z hz => (hno p).1 z (this.1 z hz), fun z hz => (hno p).2 z (this.2 z hz)⟩
theorem RP.sync (h : RP c env tmps w ps vs) {m : Nat} (hs : ∀ r, r ≠ m -> Settled (ps r)) (hm : env.length <= m) {q j : Nat} {x y : t.D} (hl : (get env q).leaf? j = some ⟨t, x, .at_ lv⟩) (hlv : lv.deep = true)
  (hx : ∀ cs bs, Rel c (SS env ps tmps vs w cs bs) -> ∀ u, (cs q)[j]? = some u -> Below c.base w w' /\ (∀ b, b < w.heap.size -> b ∉ bs q (j + 1) -> (∀ l, b ∉ bs m l) -> w'.heap[b]? = w.heap[b]?) /\
   ∃ bd : List Nat, (∀ b ∈ bd, b < w'.heap.size /\ (w.heap.size <= b \/ b ∈ bs q (j + 1) \/ ∃ l, b ∈ bs m l)) /\ bd.Nodup /\ Rep (fun _ => False) w' t .dp [u] y bd) :
  RP c (syncPlace q j ⟨t, y, .at_ lv⟩ env) tmps w' (upd ps m .undef) vs := by
 obtain ⟨hlen, cs, bs, hrel, hno⟩ := h;obtain ⟨k, ls0, hv0⟩ : ∃ k ls, get env q = .con k ls := by
  cases hv : get env q with
  | con k ls => exact ⟨k, ls, rfl⟩
  | _ => rw [hv] at hl; simp [AV.leaf?] at hl
 have hl0 : leafAt ls0 j = some ⟨t, x, .at_ lv⟩ := by rw [hv0] at hl; exact hl
 have hjl : j < ls0.length := by rw [Y1] at hl0; exact (X6.1 hl0).1
 have hav := hrel.av q;have e1 : (SS env ps tmps vs w cs bs).env q = .con k ls0 := by show ovl env ps q = _; rw [Y8 (Y1p hl), hv0]
 have hav2 : AVRel c (SS env ps tmps vs w cs bs) q (.con k ls0) ((SS env ps tmps vs w cs bs).tm q) := by grind
 have g2 : ls0.length = (cs q).length := hav2.2.1;obtain ⟨u, hu⟩ : ∃ u, (cs q)[j]? = some u := ⟨_, X1 (by omega)⟩;obtain ⟨hbel, hheap, bd, hbd1, hbd2, hrep⟩ := hx cs bs hrel u hu;obtain ⟨bs', k1, k2, _⟩ := RP.syncAt hlen hrel hno hs hm hl hlv hu hbel hheap hbd1 hbd2 hrep;exact ⟨by unfold syncPlace; rw [Y5, Y7]; exact hlen, cs, bs', k1, k2⟩
theorem Y4q {l : Leaf} {bl : List Nat} (hv : Rep S w l.t .dp [v] l.x bl) : ∀ (t : Ty) {c : List Value} {x y : t.D} {b : List Nat} {n : Nat}, Rep S w t .dp c x b -> updLeafD t x n l = some y -> n < c.length /\ ∃ p q r, b = p ++ q ++ r /\ Rep S w t .dp (c.set n v) y (p ++ bl ++ r)
 | .unit, c, x, y, b, n, h, hu => by simp [updLeafD] at hu
 | .int k, c, x, y, b, n, h, hu => by
  simp only [updLeafD] at hu;split at hu
  ·rename_i hn;subst hn;rw [Leaf.as_eq hu] at hv;have hc := h.1;have hb := h.2;subst hc; subst hb;exact ⟨by simp, [], [], [], rfl, by simpa using hv⟩
  ·simp at hu
 | .bool, c, x, y, b, n, h, hu => by
  simp only [updLeafD] at hu;split at hu
  ·rename_i hn;subst hn;rw [Leaf.as_eq hu] at hv;have hc := h.1;have hb := h.2;subst hc; subst hb;exact ⟨by simp, [], [], [], rfl, by simpa using hv⟩
  ·simp at hu
 | .str, c, x, y, b, n, h, hu => by
  simp only [updLeafD] at hu;split at hu
  ·rename_i hn;subst hn;rw [Leaf.as_eq hu] at hv;have hc := h.1;have hb := h.2;subst hc; subst hb;exact ⟨by simp, [], [], [], rfl, by simpa using hv⟩
  ·simp at hu
 | .slice e t, c, x, y, b, n, h, hu => by
  simp only [updLeafD] at hu;split at hu
  ·rename_i hn;subst hn;rw [Leaf.as_eq hu] at hv;obtain ⟨v0, xs, b0, b1, hc, _⟩ := h;subst hc;exact ⟨by simp, [], b, [], by simp, by simpa using hv⟩
  ·simp at hu
 | .pair a b', c, x, y, b, n, ⟨c1, c2, b1, b2, e1, e2, h1, h2⟩, hu => by
  have hl1 := h1.len;simp [updLeafD] at hu;split at hu
  ·rename_i hn;cases hya : updLeafD a x.1 n l with
   | none => grind
   | some y1 =>
    rw [hya] at hu;simp at hu;subst hu;obtain ⟨k0, p, q, r, k1, k2⟩ := Y4q hv a h1 hya;subst e1;exact ⟨by rw [Xk]; omega, p, q, r ++ b2, by rw [e2, k1]; simp, c1.set n v, c2, p ++ bl ++ r, b2, by rw [List.set_append_left _ _ k0], by grind⟩
  ·rename_i hn;cases hyb : updLeafD b' x.2 (n - a.sz) l with
   | none => grind
   | some y1 =>
    rw [hyb] at hu;simp at hu;subst hu;obtain ⟨k0, p, q, r, k1, k2⟩ := Y4q hv b' h2 hyb;subst e1;exact ⟨by rw [Xk]; omega, b1 ++ p, q, r, by rw [e2, k1]; simp, c1, c2.set (n - a.sz) v, b1, p ++ bl ++ r, by rw [X22 _ _ (by omega), hl1], by simp only [X7], h1, k2⟩
theorem Ybw {X Q Y L : List Nat} (h : (X ++ (Q ++ Y)).Nodup) (hL : L.Nodup) (hd : ∀ b ∈ L, ∀ b' ∈ X ++ Y, b ≠ b') : (X ++ (L ++ Y)).Nodup := by grind
def setCs : List Value -> Nat -> List Value -> List Value
 | c, _, [] => c
 | c, n, u :: us => setCs (c.set n u) (n + 1) us
theorem Y6z : ∀ (us c : List Value) (n : Nat), n + us.length <= c.length -> setCs c n us = c.take n ++ us ++ c.drop (n + us.length)
 | [], c, n, h => by simp [setCs]
 | u :: us, c, n, h => by
  simp at h;rw [setCs, Y6z us _ _ (by grind)];rw [List.take_set, List.drop_set, X4 (by omega)];simp;rw [show (c.take (n + 1)).set n u = c.take n ++ [u] by
   rw [X27 (by omega), X22 _ _ (by simp; omega)];simp [Xm, X30 (show n <= c.length by omega)]]
  simp;rw [show n + 1 + us.length = n + (us.length + 1) by omega]
theorem Y44 : ∀ (us c : List Value) (n : Nat), (setCs c n us).length = c.length
 | [], c, n => rfl
 | u :: us, c, n => by rw [setCs, Y44 us, Xz]
theorem Y2h (t : Ty) : ∀ (ls : List Leaf) (us : List Value) (F : Nat -> List Nat) {c : List Value} {x y : t.D} {b : List Nat} {n : Nat},
  ls.length = us.length -> (∀ l lf u, ls[l]? = some lf -> us[l]? = some u -> Rep S w lf.t .dp [u] lf.x (F l)) -> Rep S w t .dp c x b -> updLeavesD t x n ls = some y ->
  (ls ≠ [] -> n + ls.length <= c.length) /\ ∃ b', Rep S w t .dp (setCs c n us) y b' /\ (∀ z ∈ b', z ∈ b \/ ∃ l, l < ls.length /\ z ∈ F l) /\
   ∀ X Y, (X ++ b ++ Y).Nodup -> (∀ l, l < ls.length -> (F l).Nodup) -> (∀ l l' z, l < ls.length -> l' < ls.length -> z ∈ F l -> z ∈ F l' -> l = l') -> (∀ l z, l < ls.length -> z ∈ F l -> z ∉ X ++ b ++ Y) -> (X ++ b' ++ Y).Nodup
 | [], us, F, c, x, y, b, n, hl, hv, h, hu => by
  simp [updLeavesD] at hu;subst hu;have : us = [] := Xn.1 hl.symm;subst this;exact ⟨fun h => absurd rfl h, b, h, fun z hz => .inl hz, fun X Y hn _ _ _ => hn⟩
 | lf :: ls, us, F, c, x, y, b, n, hl, hv, h, hu => by
  cases us with
  | nil => simp at hl
  | cons u us =>
   simp [updLeavesD] at hu;cases h1 : updLeafD t x n lf with
   | none => grind
   | some y1 =>
    rw [h1] at hu;obtain ⟨k0, p, q, r, k1, k2⟩ := Y4q (hv 0 lf u rfl rfl) t h h1;obtain ⟨m0, b', m1, m2, m3⟩ := Y2h t ls us (fun l => F (l + 1)) (by simpa using hl) (fun l lf' u' h1 h2 => hv (l + 1) lf' u' (by simpa using h1) (by simpa using h2)) k2 hu;refine ⟨fun _ => ?_, b', m1, fun z hz => ?_, fun X Y hn h1 h2 h3 => ?_⟩
    ·by_cases hls : ls = []
     ·grind
     ·grind
    ·grind
    ·have hd0 : ∀ z ∈ F 0, z ∉ X ++ b ++ Y := fun z hz => h3 0 z (by simp) hz;have hn1 : (X ++ (p ++ F 0 ++ r) ++ Y).Nodup := by
      rw [k1] at hn hd0;have := Ybw (X := X ++ p) (Q := q) (Y := r ++ Y) (L := F 0) (by simpa only [X7] using hn) (h1 0 (by simp)) (fun z hz z' hz' e => by
       subst e;apply hd0 z hz;simp only [X5] at hz' ⊢;rcases hz' with (hz' | hz') | (hz' | hz') <;> simp [hz'])
      simpa only [X7] using this
     refine m3 X Y hn1 (fun l hlt => h1 (l + 1) (by simpa using hlt)) (fun l l' z hlt hlt' hz hz' => by have := h2 (l + 1) (l' + 1) z (by simpa using hlt) (by grind) hz hz'; omega) (fun l z hlt hz hm => ?_);have hm' : z ∈ X ++ b ++ Y \/ z ∈ F 0 := by grind
     rcases hm' with hm' | hm'
     ·grind
     ·grind
theorem Ybf {V : Type} (pre ch post us : List V) (oo : Nat) (h : oo + us.length <= ch.length) : pre ++ (ch.take oo ++ us ++ ch.drop (oo + us.length)) ++ post = (pre ++ ch ++ post).take (pre.length + oo) ++ us ++ (pre ++ ch ++ post).drop (pre.length + oo + us.length) := by
 have h1 : (pre ++ ch ++ post).take (pre.length + oo) = pre ++ ch.take oo := by
  rw [X7, List.take_append, X2d (by omega), show pre.length + oo - pre.length = oo by omega, List.take_append_of_le_length (by omega)]
 have h2 : (pre ++ ch ++ post).drop (pre.length + oo + us.length) = ch.drop (oo + us.length) ++ post := by
  rw [X7, List.drop_append, X2u (by omega), show pre.length + oo + us.length - pre.length = oo + us.length by omega, List.drop_append_of_le_length (by omega), X2l]
 rw [h1, h2]; simp
theorem Y9t (C us : List Value) (off N : Nat) (h : off + us.length <= N) (hN : N <= C.length) : (C.take off ++ us ++ C.drop (off + us.length)).take N = (C.take N).take off ++ us ++ (C.take N).drop (off + us.length) := by
 have hA : (C.take off ++ us).length = off + us.length := by grind
 rw [List.take_append, hA, X2d (by omega), List.take_take, X30 (by omega), List.drop_take]
section
variable {P : Program} {o : Oper} {a : Act} {w : World} {R : Type} {K : Env -> Option R} {r : R} {next : Act -> World -> Prop} {Q : Exit -> Act -> World -> Prop} {c : Cx} {d : Nat} {T : Tab} {env : Env}
theorem Y8z (hT : TabOk P T) {t : TypeId} {x v : Operand} {env1 : Env} {q j oo : Nat} {i : Int} {le : List Leaf} {te : Ty} {xs : List te.D} {y : te.D} (hlv : lv.deep = true) (hop : o.op = .store t x v) (hdst : o.dst = none) (hr : RE c env a.tmps w) (ht : T.ty t = some τ) (hta : takeAs τ env v = some (env1, ls))
  (hx : rd none env1 x = .eptr le (some (q, j, [], i, oo))) (hl : (get env1 q).leaf? j = some ⟨.slice e te, xs, .at_ lv⟩) (hlm : (!ls.isEmpty && ls.all fun l => !l.t.isAgg && (l.t.flatB || l.m == .at_ .dp)) = true) (hi0 : 0 <= i) (hi1 : i < (xs.length : Int)) (hu : updLeavesD te (xs.getD i.toNat te.dflt) oo ls = some y)
  (hK : K (syncPlace q j ⟨.slice e te, xs.set i.toNat y, .at_ lv⟩ env1) = some r) (hn : Next c a K r env.length next) : o.wp P a w next Q := by
 simp only [X9, X1h, List.isEmpty_eq_false_iff] at hlm;obtain ⟨hne, hlm⟩ := hlm;obtain ⟨hti, hty⟩ := Y23 hta;have hll := Y1b hty;obtain ⟨vs, h⟩ := hr;obtain ⟨hlen1, h1⟩ := Y17 h (fun r => .inl rfl) hti (Xi _) rfl;have hset := Yx hti;have hs1 : ∀ r, Settled (upd noP env.length (.con τ.kind ls) r) := Settled.upd (fun r => .inl rfl) _ (.inr ⟨_, _, rfl, hset⟩)
 let ps := upd noP env.length (.con τ.kind ls)
 let vs1 := upd vs env.length (evT a.tmps v)
 have hql : q < env1.length := Y1p hl;have hqm : q ≠ env.length := by omega
 -- what the relation says of the place and of the address
 have near : ∀ cs bs, Rel c (SS env1 ps a.tmps vs1 w cs bs) -> ∃ B n cp, (cs q)[j]? = some (.slice (some ⟨B, 0, none⟩) n cp) /\ evT a.tmps x = .pointer (some ⟨B, i.toNat * te.sz + oo, none⟩) /\ Rep (RoS c (SS env1 ps a.tmps vs1 w cs bs)) w (.slice e te) .dp [.slice (some ⟨B, 0, none⟩) n cp] xs (bs q (j + 1)) := by
  intro cs bs hrel;obtain ⟨cells, hv⟩ := Yl h1.len hrel none x;rw [hx] at hv;obtain ⟨ad, ea, _, _, lf, u, ⟨o1, o2, o3⟩, k⟩ := hv;obtain ⟨e', t', xs', m', B, n, cp, k1, k2, _, _, k3⟩ := k.1 rfl;have o1 : (ovl env1 ps q).leaf? j = some lf := o1;rw [Y8 hql, hl] at o1;simp only [X0] at o1;rw [<- o1] at k1;simp only [Leaf.mk.injEq, Ty.slice.injEq] at k1;obtain ⟨⟨rfl, rfl⟩, _, _⟩ := k1;subst k2;refine ⟨B, n, cp, o3, by rw [ea, k3], ?_⟩;have hav := hrel.av q;have e1 : (SS env1 ps a.tmps vs1 w cs bs).env q = get env1 q := Y8 hql;rw [e1] at hav;obtain ⟨kk, ls0, hv0⟩ : ∃ k ls, get env1 q = .con k ls := by
   cases hv : get env1 q with
   | con k ls => exact ⟨k, ls, rfl⟩
   | _ => rw [hv] at hl; simp [AV.leaf?] at hl
  rw [hv0] at hav hl;exact (Rep.deep hlv).1 (hav.2.2.2 j _ _ hl o3).rep
 obtain ⟨cs0, bs0, hrel0, _⟩ := h1.rel;obtain ⟨B, n, cp, c1, c2, c3⟩ := near cs0 bs0 hrel0
 let off := i.toNat * te.sz + oo
 let us := (evT a.tmps v).cells.toList
 -- the leaves that are stored
 have leafv : ∀ cs bs, Rel c (SS env1 ps a.tmps vs1 w cs bs) -> ls.length = us.length /\ ∀ l lf u, ls[l]? = some lf -> us[l]? = some u -> Rep (RoS c (SS env1 ps a.tmps vs1 w cs bs)) w lf.t .dp [u] lf.x (bs env.length (l + 1)) := by
  intro cs bs hrel;obtain ⟨m1, m2, m3, m4, m5⟩ := Y2l h1.len hrel (n := env.length) (by omega) (Y0 _ _ _) (Y1k τ) hset;have ev : vs1 env.length = evT a.tmps v := Y0 _ _ _;rw [ev] at m1;refine ⟨by rw [m3, m1], fun l lf u hlf hu1 => ?_⟩;obtain ⟨lv, ⟨k1, _⟩, k2⟩ := m5 l lf u hlf (by rw [m1]; exact hu1);have hlm1 := Xa.1 hlm lf (X8 hlf);simp only [X9, X2p] at hlm1;rcases hlm1.2 with hf | hd
  ·obtain ⟨k3, k4⟩ := Rep.flat (S' := RoS c (SS env1 ps a.tmps vs1 w cs bs)) (w' := w) (m' := .dp) hf k2;rw [k3]; exact k4
  ·rw [k1] at hd;simp only [beq_iff_eq, Mode.at_.injEq] at hd;subst hd;exact k2
 obtain ⟨hus, leafv0⟩ := leafv cs0 bs0 hrel0;have hone : ∀ u ∈ us, u.oneCell' = true := fun u hu => by
  obtain ⟨l, hlu⟩ := Xw hu;have hlt : l < ls.length := by rw [hus]; exact (X6.1 hlu).1
  exact Rep.one (leafv0 l ls[l] u (X1 hlt) hlu) u (by simp)
 have hi : i.toNat < xs.length := by omega
 have hget : xs.getD i.toNat te.dflt = xs[i.toNat] := by simp [hi]
 rw [hget] at hu
 -- the block
 have block : ∃ cur, w.heap[B]? = some (.cells cur e (0, 0)) /\ off + us.length <= cur.size := by
  obtain ⟨v0, cells, b0, b1, e1, e2, hel, hrow⟩ := c3;obtain rfl : v0 = .slice (some ⟨B, 0, none⟩) n cp := by simpa using e1.symm
  obtain ⟨pre, ch, post, x0, x1, x2, f1, f2, f3, f4, f5, _⟩ := hel.at_ i.toNat hi;have f5 : Rep _ w te .dp ch _ x1 := f5;obtain ⟨k0, _⟩ := Y2h te ls us (fun l => bs0 env.length (l + 1)) hus leafv0 f5 hu;rcases hrow.2.2 with ⟨h', _⟩ | ⟨g', cap', cur, h', _, hg, hnc, _, hcs, htk⟩
  ·simp at h'
  ·simp only [Value.slice.injEq, X0, X34, and_true] at h';obtain ⟨rfl, rfl, rfl⟩ := h';refine ⟨cur, hg, ?_⟩;have hlen2 : cells.length <= cur.size := by
    have : cells.length <= cur.toList.length := by rw [<- htk, Xm]; exact Nat.min_le_right _ _
    simpa using this
   rw [f1] at hlen2;simp only [Xk] at hlen2;have := k0 hne;simp only [off]; omega
 obtain ⟨cur, hgB, hfit⟩ := block
 let cur' : Array Value := (cur.toList.take off ++ us ++ cur.toList.drop (off + us.length)).toArray
 let w' := w.setRow B cur'
 have hother : ∀ b, b ≠ B -> w'.heap[b]? = w.heap[b]? := fun b hb => setRow_other w B b _ hb;have hsame : w'.heap[B]? = some (.cells cur' e (0, 0)) := setRow_heap w B _ _ e (0, 0) hgB;have h2 := h1.sync (m := env.length) (fun r _ => hs1 r) (by omega) hl hlv (w' := w') (y := xs.set i.toNat y) (fun cs bs hrel uu huu => by
  obtain ⟨B', n', cp', k1, k2, k3⟩ := near cs bs hrel;rw [c2] at k2;have hB : B = B' := by simpa using k2
  subst hB;obtain ⟨_, hru⟩ := leafv cs bs hrel;have huu : uu = .slice (some ⟨B, 0, none⟩) n' cp' := by
   have huu : (cs q)[j]? = some uu := huu;rw [k1] at huu;exact (Xs huu).symm
  subst huu;obtain ⟨v0, cells, b0, b1, e1, e2, hel, hrow⟩ := k3;obtain rfl : v0 = .slice (some ⟨B, 0, none⟩) n' cp' := by simpa using e1.symm
  obtain ⟨hb0, hown1, hown⟩ := hrow;obtain ⟨cap', hB0, hnc, hcm, hcs, htk⟩ : ∃ cap', cp' = cap' /\ n' <= cap' /\ cap' <= maxLen /\ cur.size = cap' * te.sz /\ cur.toList.take (n' * te.sz) = cells := by
   rcases hown with ⟨h', _⟩ | ⟨g', cap', cur2, h', _, hg, hnc, hcm, hcs, htk⟩
   ·simp at h'
   ·simp only [Value.slice.injEq, X0, X34, and_true] at h';obtain ⟨rfl, rfl, rfl⟩ := h';rw [hgB] at hg;simp only [X0, Obj.cells.injEq, and_true] at hg;subst hg;exact ⟨_, rfl, hnc, hcm, hcs, htk⟩
  subst hB0;have hn : n' = xs.length := by
   rcases hown with ⟨h', _⟩ | ⟨g', cap', cur, h', _⟩
   ·simp at h'
   ·simp only [Value.slice.injEq] at h'; exact h'.2.1
  subst hn;have hb0 : b0 = [B] := by rw [hb0]; rfl
  subst hb0;obtain ⟨pre, ch, post, x0, x1, x2, f1, f2, f3, f4, f5, f6⟩ := hel.at_ i.toNat hi;have f5 : Rep _ w te .dp ch _ x1 := f5;obtain ⟨k0, b', k4, k5, k6⟩ := Y2h te ls us (fun l => bs env.length (l + 1)) hus hru f5 hu;have k0 := k0 hne;have hel' := f6 (setCs ch oo us) y _ (by rw [Y44]; exact f3) k4;have hcl : cells.length = xs.length * te.sz := hel.len;have hoff : off + us.length <= cells.length := by
   rw [f1]; simp only [Xk, off]; omega
  have hcells : pre ++ setCs ch oo us ++ post = cells.take off ++ us ++ cells.drop (off + us.length) := by
   rw [Y6z _ _ _ (by omega), f1, Ybf _ _ _ _ _ (by omega), f2]
  rw [hcells] at hel';have hBq : B ∈ bs q (j + 1) := by
   have e2 : bs q (j + 1) = [B] ++ b1 := e2;rw [e2]; simp
  have hsub : ∀ b ∈ b1, b ∈ bs q (j + 1) := fun b hb => by
   have e2 : bs q (j + 1) = [B] ++ b1 := e2;rw [e2]; exact Xe _ hb
  have hnd : ([B] ++ b1).Nodup := by
   have e2 : bs q (j + 1) = [B] ++ b1 := e2;rw [<- e2]; exact hrel.nodup _ _
  rw [f4] at hnd hsub;have hdj : ∀ l, ∀ b ∈ bs env.length (l + 1), b ∉ bs q (j + 1) := fun l b hb hb' => hqm (hrel.disj _ _ _ _ _ hb' hb).1;have hmem : ∀ b ∈ x0 ++ b' ++ x2, (∃ l, b ∈ bs env.length (l + 1)) \/ b ∈ x0 ++ x1 ++ x2 := fun b hb => by
   simp only [X5] at hb ⊢;rcases hb with (hb | hb) | hb
   ·simp [hb]
   ·rcases k5 b hb with hb | ⟨l, _, hb⟩
    ·simp [hb]
    ·exact .inl ⟨l, hb⟩
   ·simp [hb]
  have hndn : ([B] ++ (x0 ++ b' ++ x2)).Nodup := by
   have := k6 ([B] ++ x0) x2 (by simpa only [X7] using hnd) (fun l _ => hrel.nodup _ _) (fun l l' z _ _ h1 h2 => by have := (hrel.disj _ _ _ _ _ h1 h2).2; omega) (fun l z _ hz hm => by
    apply hdj l z hz;simp only [X5, Xb] at hm;rcases hm with ((hm | hm) | hm) | hm
    ·rw [hm]; exact hBq
    ·exact hsub z (by simp [hm])
    ·exact hsub z (by simp [hm])
    ·exact hsub z (by simp [hm]))
   simpa only [X7] using this
  have hltB : B < w.heap.size := (hrel.own _ _ _ hBq).2;have hsz : w'.heap.size = w.heap.size := setRow_size _ _ _;refine ⟨below_setRow (X1g _ _) (hrel.own _ _ _ hBq).1.1 _, fun b hb hb1 _ => hother b (fun e => hb1 (e ▸ hBq)), [B] ++ (x0 ++ b' ++ x2), fun b hb => ?_, hndn, ?_⟩
  ·rw [hsz];rcases X5.1 hb with hb | hb
   ·rw [Xb.1 hb]; exact ⟨hltB, .inr (.inl hBq)⟩
   ·rcases hmem b hb with ⟨l, hb⟩ | hb
    ·exact ⟨(hrel.own _ _ _ hb).2, .inr (.inr ⟨_, hb⟩)⟩
    ·exact ⟨(hrel.own _ _ _ (hsub b hb)).2, .inr (.inl (hsub b hb))⟩
  ·refine ⟨.slice (some ⟨B, 0, none⟩) xs.length cp', cells.take off ++ us ++ cells.drop (off + us.length), [B], _, rfl, rfl, ?_, rfl, ?_⟩
   ·refine El.imp (fun c' x' b' hb' h' => ?_) hel';refine Rep.dpS (S := fun _ => False) (Rep.move (S := fun _ => False) (fun _ hf => absurd hf id) (fun b hb => hother b (fun e => ?_)) (Rep.dpS h'));subst e;exact (X15.1 hndn).2.2 b (by simp) b (hb' b hb) rfl
   ·rw [Xz];have hcurl : off + us.length <= cur.toList.length := by rw [X17]; exact hfit
    refine ⟨?_, .inr ⟨B, cp', cur', rfl, X2w _, hsame, hnc, hcm, ?_, ?_⟩⟩
    ·simp only [Xk, Xm, X12]; omega
    ·rw [<- hcs];simp only [cur', List.size_toArray, Xk, Xm, X12, X17] at hcurl ⊢;omega
    ·rw [<- htk];exact Y9t _ _ _ _ (by rw [hcl] at hoff; exact hoff) (by rw [<- hcl, <- htk, Xm]; exact Nat.min_le_right _ _))
 refine Y54 hdst (w' := w') ?_ (by unfold syncPlace; rw [Y5, Y7]; exact hlen1) h2 (fun r => ?_) hK hn
 ·have hsize := TabOk.sizeOf hT ht;have hcs : (evT a.tmps v).cells.size = τ.sz := by rw [<- X17]; show us.length = _; rw [<- hus, hll]
  have hst := run_storeCells_at P B off e us 0 cur w hgB (by simpa using hfit) hone;rw [X2f] at hst;simp [execOp, hop, Y6, c2, Instr.storeAt, Instr.sureAddr, storeVar, hsize, hcs];rw [show Sem.run P (storeCells { block := B, off := i.toNat * te.sz + oo } (evT a.tmps v).cells.toList) w = .ok () w' from hst];rfl
 ·by_cases hr : r = env.length
  ·subst hr; rw [Y0]
  ·rw [Y2 _ _ hr]; show upd noP env.length _ r = _; rw [Y2 _ _ hr]; rfl
end
theorem Y8j : ∀ (n : Nat) (ls : List Leaf) (l : Nat), (spendLs n ls)[l]? = if l < n then (ls[l]?).map Leaf.spent else ls[l]?
 | n, [], l => by cases n <;> simp [spendLs]
 | 0, x :: ls, l => by simp [spendLs]
 | n + 1, x :: ls, 0 => by simp [spendLs]
 | n + 1, x :: ls, l + 1 => by simp only [spendLs, X1i, Nat.add_lt_add_iff_right]; exact Y8j n ls l
theorem Y33 : ∀ (ls : List Leaf) (off n l : Nat), (killLeaves ls off n)[l]? = if off <= l /\ l < off + n then (ls[l]?).map Leaf.spent else ls[l]?
 | ls, 0, n, l => by simp [killLeaves, Y8j]
 | [], off + 1, n, l => by simp [killLeaves]
 | x :: ls, off + 1, n, 0 => by simp [killLeaves]
 | x :: ls, off + 1, n, l + 1 => by
  simp only [killLeaves, X1i, Y33 ls off n l];by_cases h : off <= l /\ l < off + n
  ·grind
  ·grind
theorem Y8k : ∀ (n : Nat) (ls : List Leaf), (spendLs n ls).length = ls.length
 | n, [] => by cases n <;> simp [spendLs]
 | 0, x :: ls => by simp [spendLs]
 | n + 1, x :: ls => by simp [spendLs, Y8k n ls]
theorem Y34 : ∀ (ls : List Leaf) (off n : Nat), (killLeaves ls off n).length = ls.length
 | ls, 0, n => by simp [killLeaves, Y8k]
 | [], off + 1, n => by simp [killLeaves]
 | x :: ls, off + 1, n => by simp [killLeaves, Y34 ls off n]
section
variable {P : Program} {o : Oper} {a : Act} {w : World} {R : Type} {K : Env -> Option R} {r : R} {next : Act -> World -> Prop} {Q : Exit -> Act -> World -> Prop} {c : Cx} {d : Nat} {T : Tab} {env : Env}
theorem RP.grabTup (h : RP c env tmps w noP vs) {s i off n : Nat} {agg : Bool} {sh : List (Bool × Nat)} (hk : get env s = .con (.tup sh) ls) (ho : tupOff sh i = some (off, agg, n)) (hbare : ∀ l ∈ ls, l.m.bare = true) (hlive : ∀ l ∈ takeLs n (dropLs off ls), l.m.live = true) :
  ∃ (vl : List Value) (v : Value), evT tmps (.tmp s) = .tuple vl.toArray /\ vl[i]? = some v /\ RP c (put (killRoot s env) s (.con (.tup sh) (killLeaves ls off n))) tmps w (upd noP env.length (mkCon agg (takeLs n (dropLs off ls)))) (upd vs env.length v) := by
 let N := env.length
 have hsl : s < env.length := Yw hk;have hsN : s ≠ N := X1k hsl;obtain ⟨hlen, cs, bs, hr, hno⟩ := h
 replace hr : Rel c (SS env noP tmps vs w cs bs) := hr
 have hbs := Y85 hr (Xi env.length) rfl;obtain ⟨hk2, hk3⟩ := hr.killRoot_ s
 let E := chgE (killG s) (ovl env noP)
 have hchg : chgs (killG s) ls = ls := by
  rw [Y2x]
  conv => rhs; rw [<- List.map_id ls]
  refine List.map_congr_left (fun l hl => ?_);have := hbare l hl;obtain ⟨t, x, m⟩ := l;cases m with
  | bor _ _ _ => simp [Mode.bare] at this
  | _ => rfl
 have hEs : E s = .con (.tup sh) ls := by show (ovl env noP s).chg _ = _; rw [Y8 hsl, hk]; show AV.con _ (chgs _ _) = _; rw [hchg]
 have hEN : E N = .undef := by show (ovl env noP N).chg _ = _; rw [Yt (Xi _)]; rfl
 have hav := hk2.av s;have e2 : ovlT tmps vs s = tmps.getD s undef := X4 (hlen ▸ hsl);simp only [show chgE (killG s) (ovl env noP) s = _ from hEs, e2] at hav;obtain ⟨⟨g0, vl, g1, gt⟩, g2, g3, g4⟩ := hav;have g0 : bs s 0 = [] := g0;have g2 : ls.length = (cs s).length := g2;have g3 : ∀ l, ls.length <= l -> bs s (l + 1) = [] := g3;have g4 : ∀ l lf u, leafAt ls l = some lf -> (cs s)[l]? = some u -> LeafRel c ⟨E, ovlT tmps vs, w, cs, bs⟩ s l u lf := g4;obtain ⟨v, f1, f2, f3, f4⟩ := Y7a gt ho;refine ⟨vl, v, g1, f1, ?_⟩
 let sub := takeLs n (dropLs off ls)
 let cn := ((cs s).drop off).take n
 have hsub : ∀ l, sub[l]? = if l < n then ls[off + l]? else none := fun l => by
  show (takeLs n (dropLs off ls))[l]? = _;rw [Yn, Yo, X1j];split
  ·grind
  ·rfl
 have hcn : ∀ l, cn[l]? = if l < n then (cs s)[off + l]? else none := fun l => by grind
 have hsl2 : sub.length = n := by show (takeLs n (dropLs off ls)).length = n; rw [Yn, Yo, Xm, X12]; omega
 have hcl2 : cn.length = n := by grind
 let bsS : Nat -> List Nat := fun l => if off < l /\ l <= off + n then [] else bs s l
 let bsN : Nat -> List Nat := fun l => if 0 < l /\ l <= n then bs s (off + l) else []
 let s' : St := ⟨upd (upd E s (.con (.tup sh) (killLeaves ls off n))) N (mkCon agg sub), upd (ovlT tmps vs) N v, w, upd cs N cn, upd (upd bs s bsS) N bsN⟩
 have ebS : s'.bs s = bsS := by show upd _ _ _ s = _; rw [Y2 _ _ hsN, Y0]
 have ebN : s'.bs N = bsN := Y0 _ _ _;have eeS : s'.env s = .con (.tup sh) (killLeaves ls off n) := by show upd _ _ _ s = _; rw [Y2 _ _ hsN, Y0]
 have eeN : s'.env N = mkCon agg sub := Y0 _ _ _;have ecS : s'.cs s = cs s := Y2 _ _ hsN;have ecN : s'.cs N = cn := Y0 _ _ _;have hsame : ∀ p, ¬ (p = s \/ p = N) -> s'.env p = (E p).chg noG /\ s'.tm p = ovlT tmps vs p /\ s'.cs p = cs p /\ s'.bs p = bs p := fun p hp => by
  simp at hp;refine ⟨by rw [AV.chg_no]; show upd _ _ _ p = _; rw [Y2 _ _ hp.2, Y2 _ _ hp.1], Y2 _ _ hp.2, Y2 _ _ hp.2, ?_⟩;show upd _ _ _ p = _;rw [Y2 _ _ hp.2, Y2 _ _ hp.1]
 have hLr : ∀ p, (∀ z ∈ (E p).refs, z.1 ≠ s /\ z.1 ≠ N) /\ (∀ z ∈ (E p).ptrs, z ≠ s /\ z ≠ N) := fun p =>
  ⟨fun z hz => ⟨(hk3 p).1 z hz, by have h1 := (hno p).1 z ((Yj (Y10 s) (ovl env noP p)).1 z hz); omega⟩,
   fun z hz => ⟨(hk3 p).2 z hz, by have h1 := (hno p).2 z ((Yj (Y10 s) (ovl env noP p)).2 z hz); omega⟩⟩
 have hstay : ∀ p j, p ≠ s /\ p ≠ N -> SamePl ⟨E, ovlT tmps vs, w, cs, bs⟩ s' p j := fun p j hp => by
  have hs4 := hsame p (by simp; exact hp);exact ⟨fun lf u ho => ho.chg hs4.1 hs4.2.2.1, by rw [hs4.2.2.2], fun _ _ => rfl⟩
 have hptr : ∀ p, p ≠ s /\ p ≠ N -> SamePtr ⟨E, ovlT tmps vs, w, cs, bs⟩ s' p := fun p hp => by
  have hs4 := hsame p (by simp; exact hp);exact SamePtr.chg hs4.1 hs4.2.1
 have hbS : ∀ l b, b ∈ bsS l -> b ∈ bs s l /\ ¬ (off < l /\ l <= off + n) := fun l b hb => by grind
 have hbN : ∀ l b, b ∈ bsN l -> b ∈ bs s (off + l) /\ 0 < l /\ l <= n := fun l b hb => by grind
 have hmain : Rel c s' := by
  refine Rel.step (s' := s') noG hk2 (fun p => p = s \/ p = N) (fun p _ => p ≠ s /\ p ≠ N) (fun p => p ≠ s /\ p ≠ N) hsame (X1g _ _) (fun _ _ _ => rfl)
   (fun p l b hD hb => ?_) (fun p1 l1 p2 l2 b hD hD' hb1 hb2 => ?_) (fun p l hD => ?_) (fun p _ => hLr p) (fun hkp => ⟨Yq hkp (fun p j hL => hstay p j hL), Y15 hkp (fun p j hL => hstay p j hL), fun p hL _ => hptr p hL⟩) (fun hkp p hD => ?_)
  ·by_cases hp : p = s
   ·subst hp;rw [ebS] at hb;have := (hbS l b hb).1;exact ⟨(hk2.own _ _ _ this).2, .inr ⟨p, l, .inl rfl, this⟩⟩
   ·have e := hD.resolve_left hp;subst e;rw [ebN] at hb;have := (hbN l b hb).1;exact ⟨(hk2.own _ _ _ this).2, .inr ⟨s, _, .inl rfl, this⟩⟩
  ·by_cases h1 : p1 = s <;> by_cases h2 : p2 = s
   ·subst h1; subst h2;rw [ebS] at hb1 hb2;exact ⟨rfl, (hk2.disj _ _ _ _ _ (hbS l1 b hb1).1 (hbS l2 b hb2).1).2⟩
   ·subst h1;have e := hD'.resolve_left h2;subst e;rw [ebS] at hb1;rw [ebN] at hb2;obtain ⟨k1, k2⟩ := hbS l1 b hb1;obtain ⟨k3, k4⟩ := hbN l2 b hb2;have := (hk2.disj _ _ _ _ _ k1 k3).2;omega
   ·subst h2;have e := hD.resolve_left h1;subst e;rw [ebS] at hb2;rw [ebN] at hb1;obtain ⟨k1, k2⟩ := hbS l2 b hb2;obtain ⟨k3, k4⟩ := hbN l1 b hb1;have := (hk2.disj _ _ _ _ _ k1 k3).2;omega
   ·have e1 := hD.resolve_left h1;have e2 := hD'.resolve_left h2;subst e1; subst e2;rw [ebN] at hb1 hb2;have := (hk2.disj _ _ _ _ _ (hbN l1 b hb1).1 (hbN l2 b hb2).1).2;exact ⟨rfl, by omega⟩
  ·by_cases hp : p = s
   ·subst hp;rw [ebS];simp [bsS];split
    ·grind
    ·exact hk2.nodup _ _
   ·have e := hD.resolve_left hp;subst e;rw [ebN];simp [bsN];split
    ·exact hk2.nodup _ _
    ·simp_all
  ·by_cases hp : p = s
   ·subst hp;rw [eeS];have etm : s'.tm p = tmps.getD p undef := by show upd _ _ _ p = _; rw [Y2 _ _ hsN]; exact e2
    rw [etm];refine ⟨⟨by rw [ebS]; show (if off < 0 /\ _ then [] else bs p 0) = []; rw [X2 (by omega)]; exact g0, vl, g1, by rw [ecS]; exact gt⟩, by rw [Y34, ecS]; exact g2, fun l hl => ?_, fun l lf u hl hu => ?_⟩
    ·rw [Y34] at hl;rw [ebS];simp only [bsS];split
     ·rfl
     ·exact g3 l hl
    ·rw [ecS] at hu;rw [Y1, Y33] at hl;by_cases hin : off <= l /\ l < off + n
     ·rw [X4 hin] at hl;obtain ⟨lf0, hl0, rfl⟩ := Xu.1 hl;have h6 := g4 l lf0 u (by rw [Y1]; exact hl0) hu;have hb0 : s'.bs p (l + 1) = [] := by rw [ebS]; exact X4 (by omega)
      have hbare0 := hbare lf0 (X8 hl0);obtain ⟨t, x, m⟩ := lf0;cases m with
      | bor _ _ _ => simp [Mode.bare] at hbare0
      | dead => exact ⟨hb0, h6.2⟩
      | at_ lv =>
       have hrep := h6.rep;cases lv with
       | ro => exact LeafRel.of_held rfl hb0 (Rep.roS h6.2 (fun b hb hl => (hkp b hb hl).1) (by simp))
       | sh => exact ⟨hb0, Rep.one hrep u (by simp)⟩
       | dp => exact ⟨hb0, Rep.one hrep u (by simp)⟩
       | pn _ => exact ⟨hb0, Rep.one hrep u (by simp)⟩
     ·rw [X2 hin] at hl;have h6 := g4 l lf u (by rw [Y1]; exact hl) hu;have hb0 : s'.bs p (l + 1) = bs p (l + 1) := by rw [ebS]; exact X2 (by omega)
      have hbare0 := hbare lf (X8 hl);obtain ⟨t, x, m⟩ := lf;cases m with
      | bor _ _ _ => simp [Mode.bare] at hbare0
      | dead => exact ⟨hb0.trans h6.1, h6.2⟩
      | at_ lv =>
       refine LeafRel.of_rep h6.pin ?_;rw [hb0];exact Rep.move (fun b hb hl => hkp b hb hl) (fun _ _ => rfl) h6.rep
   ·have e := hD.resolve_left hp;subst e;rw [eeN];have etm : s'.tm N = v := Y0 _ _ _;rw [etm];have hkc : KCells c w [] (if agg then .agg else .val) (mkV agg cn) cn := Y2b (fun h => by grind);refine ⟨?_, by rw [ecN, hcl2]; exact hsl2, fun l hl => ?_, fun l lf u hl hu => ?_⟩
    ·grind
    ·rw [ebN];have hl : sub.length <= l := hl;exact X2 (by omega)
    ·rw [ecN, hcn] at hu;rw [Y1, hsub] at hl;split at hl
     ·rename_i hln;rw [X4 hln] at hu;have h6 := g4 _ lf u (by rw [Y1]; exact hl) hu;have hbare0 := hbare lf (X8 hl);have hlive0 := hlive lf (X8 (i := l) (by grind));obtain ⟨t, x, m⟩ := lf;cases m with
      | bor _ _ _ => simp [Mode.bare] at hbare0
      | dead => simp [Mode.live] at hlive0
      | at_ lv =>
       refine LeafRel.of_rep h6.pin ?_;have hb0 : s'.bs N (l + 1) = bs s (off + l + 1) := by rw [ebN]; exact X4 (by omega)
       rw [hb0];exact Rep.move (fun b hb hl => hkp b hb hl) (fun _ _ => rfl) h6.rep
     ·simp at hl
 have elen : (put (killRoot s env) s (.con (.tup sh) (killLeaves ls off n))).length = env.length := by rw [Y5, Ya]
 have eE : s'.env = ovl (put (killRoot s env) s (.con (.tup sh) (killLeaves ls off n))) (upd noP env.length (mkCon agg sub)) := by
  rw [Yd (by rw [elen]; exact Xi _), Yu (by rw [Ya]; exact hsl)];unfold killRoot;rw [Yu (by rw [Y7]; exact hsl), <- Y20 _ _ noP (fun _ => .inl rfl), Yf]
 refine ⟨by rw [elen]; exact hlen, _, _, Rel.congr hmain eE (Y13 (by omega) v).symm, fun p => ?_⟩;rw [<- eE, elen];by_cases hpN : p = N
 ·subst hpN;rw [eeN];have : ∀ l ∈ sub, l.m.settled = true := fun l hl => by
   have h1 := hlive l hl;have h2 := hbare l (by
    have : l ∈ takeLs n (dropLs off ls) := hl;rw [Yn, Yo] at this;exact X25 (X26 this))
   obtain ⟨t, x, m⟩ := l;cases m with
   | at_ _ => rfl
   | bor _ _ _ => simp [Mode.bare] at h2
   | dead => simp [Mode.live] at h1
  unfold mkCon;rw [(Yc this).1, (Yc this).2];exact ⟨by simp, by simp⟩
 ·by_cases hps : p = s
  ·subst hps;rw [eeS];refine ⟨fun z hz => ?_, by simp [AV.ptrs]⟩;simp only [AV.refs, Xj] at hz;obtain ⟨lf, hlf, hz⟩ := hz;obtain ⟨l, hl⟩ := Xw hlf;rw [Y33] at hl;have : lf.refs = [] := by
    split at hl
    ·obtain ⟨lf0, hl0, rfl⟩ := Xu.1 hl;have hb := hbare lf0 (X8 hl0);obtain ⟨t, x, m⟩ := lf0;cases m with
     | at_ lv => cases lv <;> rfl
     | bor _ _ _ => simp [Mode.bare] at hb
     | dead => rfl
    ·have hb := hbare lf (X8 hl);obtain ⟨t, x, m⟩ := lf;cases m with
     | at_ lv => rfl
     | bor _ _ _ => simp [Mode.bare] at hb
     | dead => rfl
   rw [this] at hz;simp at hz
  ·rw [(hsame p (by simp; exact ⟨hps, hpN⟩)).1, AV.chg_no];have := Yj (Y10 s) (ovl env noP p);exact ⟨fun z hz => (hno p).1 z (this.1 z hz), fun z hz => (hno p).2 z (this.2 z hz)⟩
theorem Y86 {s i off n : Nat} {agg : Bool} {sh : List (Bool × Nat)} (hop : o.op = .extract (.tmp s) i) (hdst : o.dst = some d) (hr : RE c env a.tmps w) (hd : d < env.length) (hs : get env s = .con (.tup sh) ls) (ho : tupOff sh i = some (off, agg, n))
  (hlive : (takeLs n (dropLs off ls)).all (fun l => l.m.live) = true) (hbare : ls.all (fun l => l.m.bare) = true) (hK : K (setD (some d) (put (killRoot s env) s (.con (.tup sh) (killLeaves ls off n))) (mkCon agg (takeLs n (dropLs off ls)))) = some r) (hn : Next c a K r env.length next) : o.wp P a w next Q := by
 obtain ⟨vs, h⟩ := hr;obtain ⟨vl, v, e1, e2, h1⟩ := h.grabTup hs ho (fun l hl => Xa.1 hbare l hl) (fun l hl => Xa.1 hlive l hl);have elen : (put (killRoot s env) s (.con (.tup sh) (killLeaves ls off n))).length = env.length := by rw [Y5, Ya]
 rw [<- elen] at h1;refine fin hdst (v := v) ?_ (by rw [elen]; exact hd) elen h1 (by rw [Y0]) hK hn;simp [execOp, hop, Y6, e1, Instr.extract, e2]
end
theorem El.at2 {α : Type} {P : List Value -> α -> List Nat -> Prop} : ∀ {l : List α} {xs : List Value} {bs : List Nat} (i : Nat) (h : i < l.length), El P n xs l bs ->
  ∃ pre c post b0 b b1, xs = pre ++ c ++ post /\ pre.length = i * n /\ c.length = n /\ bs = b0 ++ b ++ b1 /\ P c l[i] b /\
   (∀ (Q : List Value -> α -> List Nat -> Prop), (∀ c x b', (∀ k ∈ b', k ∈ b0 ++ b1) -> P c x b' -> Q c x b') -> ∀ c' y b', c'.length = n -> Q c' y b' -> El Q n (pre ++ c' ++ post) (l.set i y) (b0 ++ b' ++ b1))
 | [], _, _, i, h, _ => by simp at h
 | x :: r, xs, bs, 0, h, ⟨c, xs', b, bs', e, l, eb, p, t⟩ =>
  ⟨[], c, xs', [], b, bs', by simpa using e, by simp, l, by simpa using eb, p, fun Q hQ c' y b' hl hp => ⟨c', xs', b', bs', by simp, hl, by simp, hp, El.imp (fun c x b' hb => hQ c x b' (by simpa using hb)) t⟩⟩
 | x :: r, xs, bs, i + 1, h, ⟨c, xs', b, bs', e, l, eb, p, t⟩ => by
  obtain ⟨pre, c1, post, b0, b1, b2, e1, l1, l2, eb1, p1, k1⟩ := El.at2 i (by simpa using h) t;refine ⟨c ++ pre, c1, post, b ++ b0, b1, b2, by rw [e, e1]; simp [X7], by rw [Xk, l, l1, X2c]; omega, l2, by rw [eb, eb1]; simp [X7], p1, ?_⟩;intro Q hQ c' y b' hl hp;exact ⟨c, pre ++ c' ++ post, b, b0 ++ b' ++ b2, by simp [X7], l, by simp [X7], hQ _ _ _ (fun k hk => by simp [hk]) p, k1 Q (fun c x b' hb hp => hQ c x b' (fun k hk => by have := hb k hk; simp at this ⊢; rcases this with h | h <;> simp [h]) hp) c' y b' hl hp⟩
theorem Rep.leafAt : ∀ (t : Ty) {lv : Lvl} {cs : List Value} {x : t.D} {bs : List Nat} {o : Nat} {q : Σ t : Ty, t.D}, Rep S w t lv cs x bs -> leafD t x o = some q ->
  ∃ u bA bl bB, cs[o]? = some u /\ bs = bA ++ bl ++ bB /\ Rep S w q.1 lv [u] q.2 bl /\
   ∀ (S' : Nat -> Prop) (w' : World) (u' : Value) (l : Leaf) (bl' : List Nat), l.t = q.1 -> Rep S' w' l.t lv [u'] l.x bl' -> (∀ b, S b -> b < w.heap.size -> S' b /\ w'.heap[b]? = w.heap[b]?) -> (∀ b ∈ bA ++ bB, w'.heap[b]? = w.heap[b]?) ->
    ∃ y, updLeafD t x o l = some y /\ Rep S' w' t lv (cs.set o u') y (bA ++ bl' ++ bB)
 | .int k, lv, cs, x, bs, o, q, h, hl => by
  simp only [leafD] at hl;split at hl
  ·rename_i ho;subst ho;simp at hl;subst hl;obtain ⟨rfl, rfl⟩ := h;refine ⟨_, [], [], [], rfl, rfl, ⟨rfl, rfl⟩, fun S' w' u' l bl' hlt hr _ _ => ?_⟩;obtain ⟨lt, lx, lm⟩ := l;subst hlt;obtain ⟨e1, rfl⟩ := hr;exact ⟨lx, by simp [updLeafD, Leaf.as], by simpa using e1, rfl⟩
  ·simp at hl
 | .bool, lv, cs, x, bs, o, q, h, hl => by
  simp only [leafD] at hl;split at hl
  ·rename_i ho;subst ho;simp at hl;subst hl;obtain ⟨rfl, rfl⟩ := h;refine ⟨_, [], [], [], rfl, rfl, ⟨rfl, rfl⟩, fun S' w' u' l bl' hlt hr _ _ => ?_⟩;obtain ⟨lt, lx, lm⟩ := l;subst hlt;obtain ⟨e1, rfl⟩ := hr;exact ⟨lx, by simp [updLeafD, Leaf.as], by simpa using e1, rfl⟩
  ·simp at hl
 | .str, lv, cs, x, bs, o, q, h, hl => by
  simp only [leafD] at hl;split at hl
  ·rename_i ho;subst ho;simp at hl;subst hl;obtain ⟨rfl, rfl⟩ := h;refine ⟨_, [], [], [], rfl, rfl, ⟨rfl, rfl⟩, fun S' w' u' l bl' hlt hr _ _ => ?_⟩;obtain ⟨lt, lx, lm⟩ := l;subst hlt;obtain ⟨e1, rfl⟩ := hr;exact ⟨lx, by simp [updLeafD, Leaf.as], by simpa using e1, rfl⟩
  ·simp at hl
 | .slice e t, lv, cs, x, bs, o, q, h, hl => by
  simp only [leafD] at hl;split at hl
  ·rename_i ho;subst ho;simp at hl;subst hl;obtain ⟨v, c1, b0, b1, rfl, rfl, h3, h4⟩ := h;refine ⟨v, [], b0 ++ b1, [], rfl, by simp, ⟨v, c1, b0, b1, rfl, rfl, h3, h4⟩, fun S' w' u' l bl' hlt hr _ _ => ?_⟩;obtain ⟨lt, lx, lm⟩ := l;subst hlt;exact ⟨lx, by simp [updLeafD, Leaf.as], by simpa using hr⟩
  ·simp at hl
 | .unit, lv, cs, x, bs, o, q, h, hl => by simp [leafD] at hl
 | .pair a b, lv, cs, x, bs, o, q, h, hl => by
  obtain ⟨c1, c2, b1, b2, rfl, rfl, h1, h2⟩ := h;have hc1 := Rep.len h1;simp [leafD] at hl;split at hl
  ·rename_i ho;obtain ⟨u, bA, bl, bB, k1, k2, k3, k4⟩ := Rep.leafAt a h1 hl;subst k2;refine ⟨u, bA, bl, bB ++ b2, by rw [Xp (by omega)]; exact k1, by simp, k3, fun S' w' u' l bl' hlt hr hS hb => ?_⟩;obtain ⟨y, m1, m2⟩ := k4 S' w' u' l bl' hlt hr hS (fun b hb' => hb b (by simp at hb' ⊢; rcases hb' with h | h <;> simp [h]));refine ⟨(y, x.2), by simp [updLeafD]; rw [X4 ho, m1], c1.set o u', c2, bA ++ bl' ++ bB, b2, by rw [List.set_append_left _ _ (by omega)], by simp only [X7], m2, ?_⟩;exact Rep.move hS (fun b hb' => hb b (by simp [hb'])) h2
  ·rename_i ho;obtain ⟨u, bA, bl, bB, k1, k2, k3, k4⟩ := Rep.leafAt b h2 hl;subst k2;refine ⟨u, b1 ++ bA, bl, bB, by rw [Xd (by omega), hc1]; exact k1, by simp, k3, fun S' w' u' l bl' hlt hr hS hb => ?_⟩;obtain ⟨y, m1, m2⟩ := k4 S' w' u' l bl' hlt hr hS (fun b hb' => hb b (by simp at hb' ⊢; rcases hb' with h | h <;> simp [h]));refine ⟨(x.1, y), by simp [updLeafD]; rw [X2 ho, m1], c1, c2.set (o - a.sz) u', b1, bA ++ bl' ++ bB, by rw [X22 _ _ (by omega), hc1], by simp only [X7], ?_, m2⟩;exact Rep.move hS (fun b hb' => hb b (by simp [hb'])) h1
end Go.FP
