/- How Go values lie in memory, and an evaluator of code with its soundness (part 5 of 7). Conditions: those that stand in each theorem; nothing is assumed of any program. -/
import Derived.Test.YtdnmcmhnikjphaaGreatFpD

set_option linter.unusedVariables false
set_option linter.unusedSimpArgs false
set_option linter.unnecessarySimpa false

namespace Go.FP
open Go.RowKit
variable {R : Type} {P : Program} {S : Nat -> Prop} {w : World} {env : Env} {tmps : Array Value} {vs : Nat -> Value} {cs : Nat -> List Value} {bs : Nat -> Nat -> List Nat} {c : Cx} {s : St} {Q : Exit -> Act -> World -> Prop} {next : Act -> World -> Prop} {caps : FuncId -> List Ty} {sig : FuncId -> Option Sig} {orc : Orc} {ls : List Leaf} {x : Operand} {t : Ty} {o : Oper} {a : Act} {v : Value} {d : Nat} {f : FuncId} {e : TypeId} {cells : List Value} {ann : Nat -> Option (List Nat)} {n : Nat} {u : Value} {rs : List (Ty × Lvl)} {k : Kind} {av : AV} {sg : Sig} {lv : Lvl} {fuel : Nat} {as : List AV} {id : TypeId} {fn : Func} {code : Code}
section
variable {c : Cx} {env : Env} {tmps : Array Value} {w : World} {ps : Nat -> AV} {vs : Nat -> Value} {cs : Nat -> List Value} {bs : Nat -> Nat -> List Nat} {caps : FuncId -> List Ty} {S : Nat -> Prop}
theorem Y8n : ∀ {avs : List AV} {us : List Value} {k : Nat} {av : AV}, ValCs c s avs us -> nthL avs k = some av -> ∃ u cells, us[k]? = some u /\ ValC c s av u cells
 | [], us, k, av, _, h => by simp [nthL] at h
 | v :: avs, us, 0, av, ⟨u, us', e, ⟨cells, hv⟩, _⟩, h => by
  simp [nthL] at h;subst h; subst e;exact ⟨u, cells, rfl, hv⟩
 | v :: avs, us, k + 1, av, ⟨u, us', e, _, h2⟩, h => by
  simp [nthL] at h;obtain ⟨b, cells, g, i⟩ := Y8n h2 h;subst e;exact ⟨b, cells, gr⟩
theorem Ya0 {t : Ty} {r : Nat} : ∀ {ptys : List PTy} {avs : List AV} {rvs : List RV} {k : Nat}, RVsX caps env r ptys avs = some rvs -> nthL ptys k = some (.ptr t) -> nthL avs k = some (.path r 0) -> ∃ x, nthL rvs k = some (.ptr t x) /\ ptrOf env t r 0 = some x
 | [], avs, rvs, k, _, h, _ => by simp [nthL] at h
 | p :: ptys, [], rvs, k, _, _, h => by simp [nthL] at h
 | p :: ptys, v :: avs, rvs, k, ho, h1, h2 => by
  simp [RVsX] at ho;cases b : RVofX caps env r p v with
  | none => grind
  | some x =>
   cases g : RVsX caps env r ptys avs with
   | none => simp_all
   | some xs =>
    rw [b, g] at ho;simp at ho;subst ho;cases k with
    | zero =>
     simp [nthL] at h1 h2;subst h1; subst h2;simp [RVofX, RVof] at b;cases i : ptrOf env t r 0 with
     | none => grind
     | some y =>
      rw [i] at b;simp at b;subst b;exact ⟨y, rfl, rfl⟩
    | succ k => exact Ya0 (ptys := ptys) (avs := avs) (rvs := xs) (k := k) g h1 h2
theorem Y6o {r : Nat} {v : AV} (h : apartR r v = true) : (∀ q ∈ v.refs, q.1 ≠ r) /\ ∀ q ∈ v.ptrs, q ≠ r := by
 simp only [apartR, X9, Xa, X1k, beq_eq_false_iff_ne] at h;exact h
theorem Y6p {r : Nat} {v : AV} (h : apartX r v = true) : (∃ f cs, v = .fptr f cs) \/ apartR r v = true := by
 unfold apartX at h;split at h
 ·grind
 ·exact .inr h
theorem RVRelX.of {b : Value} {x : RV} (h : RVRel S w x v) : RVRelX S w b x v := by
 cases x with
 | fptr f cs => exact h.elim
 | _ => exact h
theorem Ya1 {p : PTy} {cs : List Cap} : RVof caps env p (.fptr f cs) = none := by
 cases p <;> rfl
theorem Y7r (h : Rel c (SS env ps tmps vs w cs bs)) (z : ∀ b, RoS c (SS env ps tmps vs w cs bs) b -> S b) {r B : Nat} (j : (SS env ps tmps vs w cs bs).tm r = .pointer (some ⟨B, 0, none⟩)) : ∀ {ts : List Ty} {cps : List Cap} {us : List Value} {rcs : List RCap}, CapRels c (SS env ps tmps vs w cs bs) v cps us -> capRVs env r ts cps = some rcs ->
  (∀ q ∈ capRoots cps, q ≠ r -> ∀ l, ∀ b ∈ bs q l, S b) -> RCapRels S w (.pointer (some ⟨B, 0, none⟩)) v rcs us
 | [], [], us, rcs, hc, ho, _ => by simp [capRVs] at ho; subst ho; exact hc
 | [], _ :: _, us, rcs, hc, ho, _ => by simp [capRVs] at ho
 | _ :: _, [], us, rcs, hc, ho, _ => by simp [capRVs] at ho
 | t :: ts, cp :: cps, us, rcs, ⟨u, us', e, hc1, hc2⟩, ho, h3 => by
  simp [capRVs] at ho;cases g : capRV env r t cp with
  | none => simp_all
  | some x =>
   cases m : capRVs env r ts cps with
   | none => grind
   | some xs =>
    rw [g, m] at ho;simp at ho;subst ho;refine ⟨u, us', e, ?_, Y7r h z j hc2 m (fun q D => h3 q (by simp [capRoots]; exact .inr D))⟩;cases cp with
    | path r' off =>
     simp [capRV] at g;by_cases p : r' = r
     ·rw [X4 p] at g;split at g
      ·rename_i i;simp at g;subst g; subst p; subst i;obtain ⟨I, G, A, _, k2, F⟩ := hc1;rw [j] at k2;have : B = A := by simpa using k2
       subst this;exact F
      ·simp at g
     ·rw [X2 p] at g;split at g
      ·rename_i y E;simp at g;subst g;exact Y5j h E hc1 z (h3 r' (by simp [capRoots, Cap.roots]) p)
      ·simp at g
    | ro y =>
     simp [capRV] at g;subst g;exact PtrV.move (fun b C _ => ⟨z b C, rfl⟩) hc1
    | self =>
     simp [capRV] at g;subst g;exact hc1
theorem Y8o (h : Rel c (SS env ps tmps vs w cs bs)) (m : ∀ b, RoS c (SS env ps tmps vs w cs bs) b -> S b) {r B : Nat} (y : (SS env ps tmps vs w cs bs).tm r = .pointer (some ⟨B, 0, none⟩)) {p : PTy} {x : RV} (D : ValC c (SS env ps tmps vs w cs bs) av u cells) (g : RVofX caps env r p av = some x) (i : apartX r av = true)
  (F : ∀ q ∈ av.refs, ∀ b ∈ bs q.1 (q.2 + 1), S b) (A : ∀ q ∈ av.ptrs, q ≠ r -> ∀ l, ∀ b ∈ bs q l, S b) : RVRelX S w (.pointer (some ⟨B, 0, none⟩)) x u := by
 by_cases j : p = .self
 ·subst j;simp [RVofX] at g;split at g
  ·rename_i f cps;split at g
   ·rename_i xs z;simp at g;subst g;obtain ⟨us, E, G, k2, I, L, M⟩ := D;exact ⟨E, us, G, m _ k2, I, L, Y7r h m y M z A⟩
   ·simp at g
  ·simp at g
 ·have g : RVof caps env p av = some x := by
   cases p with
   | self => exact absurd rfl j
   | _ => exact g
  rcases Y6p i with ⟨f, cps, rfl⟩ | i
  ·rw [Ya1] at g; simp at g
  ·exact RVRelX.of (Y9m h D g m F (fun q C => A q C ((Y6o i).2 q C)))
theorem Ya2 (h : Rel c (SS env ps tmps vs w cs bs)) (y : ∀ b, RoS c (SS env ps tmps vs w cs bs) b -> S b) {r B : Nat} (j : (SS env ps tmps vs w cs bs).tm r = .pointer (some ⟨B, 0, none⟩)) : ∀ {ptys : List PTy} {avs : List AV} {us : List Value} {rvs : List RV}, ValCs c (SS env ps tmps vs w cs bs) avs us -> RVsX caps env r ptys avs = some rvs -> (∀ v ∈ avs, apartX r v = true) ->
  (∀ v ∈ avs, ∀ q ∈ v.refs, ∀ b ∈ bs q.1 (q.2 + 1), S b) -> (∀ v ∈ avs, ∀ q ∈ v.ptrs, q ≠ r -> ∀ l, ∀ b ∈ bs q l, S b) -> RVRelsY S w (.pointer (some ⟨B, 0, none⟩)) rvs us
 | [], [], us, rvs, g, ho, _, _, _ => by simp [RVsX] at ho; subst ho; exact g
 | [], _ :: _, us, rvs, _, ho, _, _, _ => by simp [RVsX] at ho
 | _ :: _, [], us, rvs, _, ho, _, _, _ => by simp [RVsX] at ho
 | p :: ptys, v :: avs, us, rvs, ⟨u, us', e, ⟨cells, hv1⟩, hv2⟩, ho, hap, h2, h3 => by
  simp [RVsX] at ho;cases m : RVofX caps env r p v with
  | none => rw [m] at ho; simp at ho
  | some x =>
   cases i : RVsX caps env r ptys avs with
   | none => rw [m, i] at ho; simp at ho
   | some xs =>
    rw [m, i] at ho;simp at ho;subst ho;exact ⟨u, us', e, Y8o h y j hv1 m (hap v Xp) (h2 v Xp) (h3 v Xp), Ya2 h y j hv2 i (fun v g => hap v (X3 _ g)) (fun v g => h2 v (X3 _ g)) (fun v g => h3 v (X3 _ g))⟩
theorem Ya3 (h : Rel c (SS env ps tmps vs w cs bs)) (y : ∀ b, RoS c (SS env ps tmps vs w cs bs) b -> S b) {r B : Nat} (j : (SS env ps tmps vs w cs bs).tm r = .pointer (some ⟨B, 0, none⟩)) : ∀ {k : Nat} {ptys : List PTy} {avs : List AV} {us : List Value} {rvs : List RV}, ValCs c (SS env ps tmps vs w cs bs) avs us -> RVsX caps env r ptys avs = some rvs -> (∃ v, nthL avs k = some v) -> (∀ v ∈ dropAt k avs, apartX r v = true) ->
  (∀ v ∈ dropAt k avs, ∀ q ∈ v.refs, ∀ b ∈ bs q.1 (q.2 + 1), S b) -> (∀ v ∈ dropAt k avs, ∀ q ∈ v.ptrs, q ≠ r -> ∀ l, ∀ b ∈ bs q l, S b) -> RVRelsX S w (.pointer (some ⟨B, 0, none⟩)) k rvs us
 | k, ptys, [], us, rvs, _, _, ⟨v, m⟩, _, _, _ => by simp [nthL] at m
 | k, [], v :: avs, us, rvs, _, ho, _, _, _, _ => by simp [RVsX] at ho
 | 0, p :: ptys, v :: avs, us, rvs, ⟨u, us', e, ⟨cells, hv1⟩, hv2⟩, ho, _, hap, h2, h3 => by
  simp [RVsX] at ho;cases i : RVofX caps env r p v with
  | none => rw [i] at ho; simp at ho
  | some x =>
   cases g : RVsX caps env r ptys avs with
   | none => rw [i, g] at ho; simp at ho
   | some xs =>
    rw [i, g] at ho;simp at ho;subst ho;exact ⟨u, us', e, Ya2 h y j hv2 g hap h2 h3⟩
 | k + 1, p :: ptys, v :: avs, us, rvs, ⟨u, us', e, ⟨cells, hv1⟩, hv2⟩, ho, ⟨v0, hv0⟩, hap, h2, h3 => by
  simp [RVsX] at ho;cases i : RVofX caps env r p v with
  | none => rw [i] at ho; simp at ho
  | some x =>
   cases g : RVsX caps env r ptys avs with
   | none => rw [i, g] at ho; simp at ho
   | some xs =>
    rw [i, g] at ho;simp at ho;subst ho;exact ⟨u, us', e, Y8o h y j hv1 i (hap v (by simp [dropAt])) (h2 v (by simp [dropAt])) (h3 v (by simp [dropAt])), Ya3 h y j hv2 g ⟨v0, hv0⟩ (fun v m => hap v (by simp [dropAt, m])) (fun v m => h2 v (by simp [dropAt, m])) (fun v m => h3 v (by simp [dropAt, m]))⟩
end
theorem Yb3 {v : AV} (h : bareAV v = true) : v.refs = [] /\ v.ptrs = [] := by simpa [bareAV] using h
theorem Y38 {α : Type} (f : Nat -> List α) (n l : Nat) : ((List.range n).map f).getD l [] = if l < n then f l else [] :=gr
theorem Y4x {α : Type} {f : Nat -> List α} {b : α} : b ∈ ((List.range n).map f).flatten ↔ ∃ l, l < n /\ b ∈ f l :=gr
theorem Y46 {f : Nat -> List Nat} (h : ∀ l, (f l).Nodup) (i : ∀ l g b, b ∈ f l -> b ∈ f g -> l = g) (n : Nat) : ((List.range n).map f).flatten.Nodup := by
 have := Y2d h i n 0
 rwa [List.flatMap_def, <- List.range_eq_range'] at this
section
variable {P : Program} {o : Oper} {a : Act} {w : World} {R : Type} {K : Env -> Option R} {rr : R} {next : Act -> World -> Prop} {Q : Exit -> Act -> World -> Prop} {c : Cx} {d : Nat} {env : Env} {caps : FuncId -> List Ty} {orc : Orc}
theorem Yc8 (hlen : env.length = tmps.size) (F : Rel c (SS env noP tmps vs w cs bs)) {r : Nat} {e : BoxK} (hr : get env r = .con (.box e) ls) {b : BoxSig} (O : e.id = b.id) (D : boxFits b 0 ls = true) {x : t.D} (M : asm t ls = some (x, [])) :
  ∃ B, tmps.getD r undef = .pointer (some ⟨B, 0, none⟩) /\ bs r 0 = [B] /\ w.heap[B]? = some (.cells (cs r).toArray b.id (0, 0)) /\ ls.length = (cs r).length /\ (∀ l, ls.length <= l -> bs r (l + 1) = []) /\ (∀ l lf u, ls[l]? = some lf -> (cs r)[l]? = some u -> LeafRel c (SS env noP tmps vs w cs bs) r l u lf) /\
   (leaves t x b.md 0).length = ls.length /\
   ∀ S : Nat -> Prop, (∀ k, RoS c (SS env noP tmps vs w cs bs) k -> k < w.heap.size -> S k) -> (∀ l, (slotAt b.lv l).isFx = true -> ∀ k ∈ bs r (l + 1), S k) ->
    LvsRel S w (fun _ => True) (leaves t x b.md 0) (cs r) ((List.range (cs r).length).map fun l => if (slotAt b.lv l).isFx then [] else bs r (l + 1)) := by
 have W : r < env.length := Yx hr;have C := F.av r;rw [show (SS env noP tmps vs w cs bs).env r = .con (.box e) ls by show ovl env noP r = _; rw [Y7 W]; exact hr] at C;obtain ⟨⟨B, L, g2, g3, _⟩, Z, h3, h4⟩ := C;have L : tmps.getD r undef = .pointer (some ⟨B, 0, none⟩) := by rw [<- L]; exact (X4 om).symm
 obtain ⟨pre, Y, e2⟩ := Y6d b.md t 0 M;rw [Xh] at Y;subst Y;have m : (leaves t x b.md 0).length = ls.length := by have := congrArg List.length e2; simpa using this.symm
 refine ⟨B, L, g3, O ▸ g2, Z, h3, fun l lf u h X => h4 l lf u (by rw [Y2]; exact h) X, m, fun S hS N => ⟨by rw [m]; exact Z, sm, fun l lf u _ h X => ?_⟩⟩;have p : l < ls.length := by rw [<- m]; exact (X5.1 h).1
 have y : ls[l].dat = lf.dat := by
  have I := congrArg (fun z => z[l]?) e2;simp only [X18, h, X1 p, X1w, X0] at I;exact I
 have I := h4 l ls[l] u (by rw [Y2]; exact X1 p) X;obtain ⟨j, G⟩ := Y3w D (X1 p);rw [X14] at G;rw [Y38, X4 (show l < (cs r).length by grind)];generalize ls[l] = lo at *;obtain ⟨t1, x1, m1⟩ := lo;obtain ⟨t2, x2, m2⟩ := lf;simp [Leaf.dat] at y;obtain ⟨rfl, y⟩ := y;have y : x1 = x2 := X2z y;subst y;have E : ∃ lv, m1 = .at_ lv /\ Rep (RoS c (SS env noP tmps vs w cs bs)) w t1 lv [u] x1 (bs r (l + 1)) := by
  cases m1 with
  | at_ lv => exact ⟨lv, rfl, I.rep⟩
  | bor _ _ _ => simp [Mode.settled] at j
  | dead => simp [Mode.settled] at j
 obtain ⟨lv, rfl, g⟩ := E;rcases Y29 b.md t x 0 l _ h with ⟨hf, q⟩ | ⟨⟨e0, τ, hs⟩, q⟩
 ·simp only at hf q;subst q;obtain ⟨q1, q2⟩ := Rep.flat (S' := S) (w' := w) (m' := .ro) hf g;refine ⟨.ro, rfl, ?_⟩;rw [q1];split <;> exact q2
 ·simp only at hs q;rw [X14] at q;have A : ∀ k, RoS c (SS env noP tmps vs w cs bs) k -> k < w.heap.size -> S k := hS;cases i : (slotAt b.lv l).isFx with
  | true =>
   rw [X4 rfl];refine ⟨.ro, ?_, ?_⟩
   ·rw [q]; unfold BoxSig.md; cases hq : slotAt b.lv l <;> rw [hq] at i <;> first | rfl | cases i
   ·exact Rep.roS g (fun k U h => A k U h) (N l i)
  | false =>
   rw [X2 sm];have V := (G e0 τ hs).resolve_left (by rw [i]; simp);refine ⟨lv, ?_, Rep.move (fun k U h => ⟨A k U h, rfl⟩) (fun _ _ => rfl) g⟩;rw [q, <- V]
end
section
variable {P : Program} {o : Oper} {a : Act} {w : World} {R : Type} {K : Env -> Option R} {rr : R} {next : Act -> World -> Prop} {Q : Exit -> Act -> World -> Prop} {c : Cx} {d : Nat} {env : Env} {caps : FuncId -> List Ty} {orc : Orc}
theorem Ye8 {cl : Call} {extra : List AV} {ex : List Value} (hop : o.op = .call cl) (hdst : o.dst = some d) (hr : RE c env a.tmps w) (hd : d < env.length)
  (hrun : Enterable P f -> (execOp a.eval o).run P w = .ok (.enter f (cl.args.map (evT a.tmps) ++ ex.toArray)) w) (hex : ∀ vs cs bs, Rel c (SS env noP a.tmps vs w cs bs) -> ValCs c (SS env noP a.tmps vs w cs bs) extra ex) {b : BoxSig} (hO : ∀ args q x, orc f args = some q -> q.run = some x -> Enterable P f /\ ∃ t x0 y ys, nthL args b.k = some (.ptr t x0) /\ q.pk x = ⟨t, y⟩ :: ys /\ FnSpecBox P f sg.results b t x0 args y ys)
  (hK : callB caps orc (some d) f sg b cl.args.toList extra env K = some rr) (hn : Next c a K rr env.length next) : o.wp P a w next Q := by
 unfold callB at hK;simp only at hK;split at hK
 ·rename_i r t X hk2;split at hK
  ·rename_i e ls hg;split at hK
   ·rename_i hc;obtain ⟨⟨⟨hid, hty⟩, hfit, hsub⟩, ⟨hl1, hl2⟩, hap, hcalm⟩ := hc;split at hK
    ·simp at hK
    ·rename_i rvs hrv;split at hK
     ·simp at hK
     ·rename_i q Z;obtain ⟨z0, hres0, hK⟩ := Xt.1 hK;obtain ⟨hent, t0, x0, y, ys, e1, e2, hspec⟩ := hO rvs q z0 Z hres0;obtain ⟨x, hx1, hx2⟩ := Ya0 hrv hk2 X;rw [hx1] at e1;simp at e1;obtain ⟨rfl, e1⟩ := e1;subst e1;rw [e2] at hK;simp [dif_pos] at hK;cases hra : resAV sg.results ys with
      | none => grind
      | some av =>
       rw [hra] at hK;have has : asm t ls = some (x, []) := by
        unfold ptrOf at hx2;simp [hg] at hx2;split at hx2
        ·rename_i y' hy;split at hx2
         ·simp at hx2;subst hx2; exact hy
         ·simp at hx2
        ·simp at hx2
       obtain ⟨vs, hlen, cs, bs, j, hno⟩ := hr;obtain ⟨B, htm, hB0, hBh, hll, htail, hleaf0, hlx, hLvs⟩ := Yc8 hlen j hg hid hfit has;generalize hvs : rdArgs env sg.params cl.args.toList ++ extra = avs at *;have hargl : cl.args.toList.length <= sg.params.length :=gr;have hvals : ValCs c (SS env noP a.tmps vs w cs bs) avs (cl.args.toList.map (evT a.tmps) ++ ex) := by
        rw [<- hvs];exact (Y2q hlen j hargl).1.append (hex vs cs bs j)
       obtain ⟨u, _, hu1, hu2⟩ := Y8n hvals X;obtain ⟨e', ls', B', p1, p2, p3⟩ := hu2;have hrl : r < env.length := Yx hg;have p2 : a.tmps.getD r undef = .pointer (some ⟨B', 0, none⟩) := by rw [<- p2]; exact (X4 om).symm
       have hBB : B = B' :=gr;subst hBB;rw [p3] at hu1;have hapo : ∀ v ∈ dropAt b.k avs, (∀ q ∈ v.refs, q.1 ≠ r) := fun v hv => by
        rcases Y6p (Xa.1 hap v hv) with ⟨f, cps, rfl⟩ | h
        ·simp [AV.refs]
        ·exact (Y6o h).1
       let S : Nat -> Prop := fun k => RoS c (SS env noP a.tmps vs w cs bs) k \/ (∃ v ∈ dropAt b.k avs, ∃ q ∈ v.refs, k ∈ bs q.1 (q.2 + 1)) \/ (∃ v ∈ dropAt b.k avs, ∃ q ∈ v.ptrs, q ≠ r /\ ∃ l, k ∈ bs q l) \/ ∃ l, (slotAt b.lv l).isFx = true /\ k ∈ bs r (l + 1)
       have hrvr := Ya3 (S := S) j (fun k i => .inl i) (show (SS env noP a.tmps vs w cs bs).tm r = _ from (X4 (show r < a.tmps.size by omega)).trans htm) hvals hrv ⟨_, X⟩ (fun v hv => Xa.1 hap v hv) (fun v hv q Z k i => .inr (.inl ⟨v, hv, q, Z, i⟩)) (fun v hv q Z hqr l k i => .inr (.inr (.inl ⟨v, hv, q, Z, hqr, l, i⟩)));have hLv := hLvs S (fun k i _ => .inl i) (fun l O k i => .inr (.inr (.inr ⟨l, O, i⟩)))
       let F : Nat -> List Nat := fun l => if (slotAt b.lv l).isFx then [] else bs r (l + 1)
       let V : List (List Nat) := (List.range (cs r).length).map F
       have hF : ∀ l k, k ∈ F l -> (slotAt b.lv l).isFx = false /\ k ∈ bs r (l + 1) :=gr;have hin : ∀ k ∈ V.flatten, ∃ l, (slotAt b.lv l).isFx = false /\ k ∈ bs r (l + 1) := fun k i => gr;have hBin : B ∈ bs r 0 := by rw [hB0]; simp
       have hO1 : ∀ k ∈ B :: V.flatten, ∃ l, k ∈ bs r l := fun k i => gr;have hnd : (B :: V.flatten).Nodup := by
        refine X1q.2 ⟨fun h => ?_, Y46 (fun l => ?_) (fun l C k D M => ?_) _⟩
        ·obtain ⟨l, _, h⟩ := hin B h;have := (j.disj _ _ _ _ _ hBin h).2;omega
        ·simp [F]; split
         ·exact X13
         ·exact j.nodup _ _
        ·have := (j.disj _ _ _ _ _ (hF l k D).2 (hF C k M).2).2;omega
       have hSO : ∀ k, S k -> k ∉ B :: V.flatten := by
        intro k i G;obtain ⟨l0, hl0⟩ := hO1 k G;rcases i with i | ⟨v, hv, q, Z, i⟩ | ⟨v, hv, q, Z, hqr, l, i⟩ | ⟨l, O, i⟩
        ·exact i.1 _ _ hl0
        ·exact hapo v hv q Z (j.disj _ _ _ _ _ i hl0).1
        ·exact hqr (j.disj _ _ _ _ _ i hl0).1
        ·rcases Xr.1 G with rfl | G
         ·have := (j.disj _ _ _ _ _ i hBin).2; omega
         ·obtain ⟨l1, hf1, D⟩ := hin k G;have := (j.disj _ _ _ _ _ i D).2;obtain rfl : l = l1 :=om;rw [O] at hf1; cases hf1
       unfold Oper.wp;rw [hrun hent];show Calls P f _ w _;have hargs : cl.args.map (evT a.tmps) ++ ex.toArray = (cl.args.toList.map (evT a.tmps) ++ ex).toArray := by
        rw [<- List.append_toArray, <- X2l, X1g]
       rw [hargs];refine X2m (hspec S w _ B (cs r) V c.base hu1 hBh hLv hnd (fun k i => by obtain ⟨l, h⟩ := hO1 k i; exact (j.own _ _ _ h).1.1) j.base hrvr hSO) ?_
       rintro e0 w' ⟨ch', A, chs, N, rfl, hbel, hsame, hBh', hcl, hfx, hLv', hfxb, hnd', hnew', hresR⟩
       rw [hdst];obtain ⟨hL1, hL2, hL3⟩ := hLv'
       -- the result, with what it may share
       have hgood : ∃ Sr : Nat -> Prop, ResRel Sr w.heap.size w' (B :: (A.flatten ++ N)) sg.results ys chs N /\ ((∀ k, ¬ Sr k) \/ (∀ k, Sr k -> S k \/ k ∈ B :: V.flatten) /\ (dropAt b.k avs).all bareAV = true /\ boxFxRo b 0 ls = true) := by
        rcases hcalm with ⟨D, _⟩ | M
        ·exact ⟨fun _ => False, Y4q D hresR, .inl fun _ h => h⟩
        ·exact ⟨_, hresR, .inr ⟨fun k h => h, M⟩⟩
       obtain ⟨Sr, hresR', hSr⟩ := hgood;obtain ⟨k2, ls2, rfl, f1, f2, f3, bdsN, f4, f5, f6⟩ := Y4d (c := c) hresR' hra;have hmode := Y3v hra;obtain ⟨hBn, hnd2⟩ := X1q.1 hnd';obtain ⟨hn1, hn2, hn3⟩ := X12.1 hnd2;obtain ⟨g1, g2⟩ := Y17 hn1;rw [f5] at hn2;obtain ⟨g3, g4⟩ := Y17 hn2;have hly : (leaves t y b.md 0).length = ls.length :=gr
       let br : Nat -> List Nat := fun l => match l with
        | 0 => [B]
        | l + 1 => if (slotAt b.lv l).isFx then bs r (l + 1) else A.getD l []
       let bn : Nat -> List Nat := fun l => match l with
        | 0 => []
        | l + 1 => bdsN.getD l []
       have W : ∀ l k, (slotAt b.lv l).isFx = true -> k ∈ bs r (l + 1) -> k ∉ B :: (A.flatten ++ N) /\ k ∉ B :: V.flatten := by
        intro l k O i;have h0 : k ∉ B :: V.flatten := hSO k (.inr (.inr (.inr ⟨l, O, i⟩)));refine ⟨fun G => ?_, h0⟩;rcases Xr.1 G with rfl | G
        ·exact h0 sm
        ·rcases hnew' k G with h | h
         ·exact h0 (X3 _ h)
         ·have := (j.own _ _ _ i).2; exact absurd h (by show ¬ w.heap.size <= k; exact Nat.not_le.2 this)
       have hmemN : ∀ l k, k ∈ bdsN.getD l [] -> k ∈ A.flatten ++ N := fun l k i => Xf _ (by rw [f5]; exact Yj i);have I : ∀ l k, k ∈ A.getD l [] -> k ∈ A.flatten ++ N := fun l k i => Xe _ (Yj i);have hback : ∀ k ∈ A.flatten ++ N, w.heap.size <= k \/ ∃ C, k ∈ bs r C := fun k i => (hnew' k i).elim (fun h => .inr (let ⟨l, _, h⟩ := hin k h; ⟨l + 1, h⟩)) .inl;have hsz : w.heap.size <= w'.heap.size := hbel.size;have hRP := RP.renewR (vs := vs) hlen j hno hg hB0 htm hbel (ch' := ch') (br := br) (bn := bn) (ns := mixLs b 0 ls (leaves t y b.md 0)) (k2 := k2) (ls2 := ls2) (rv := resVal sg.results chs) (cells2 := chs.flatten)
        (fun k i U => hsame k i (fun G => by obtain ⟨l, h⟩ := hO1 k G; exact U l h)) (by rw [hid]; exact hBh') (fun l O => hfx l (Y5s hsub O)) rfl (by rw [Y45 hly.symm, <- hly]; exact hL1) (fun l O => ?_) (fun l k i => ?_) (fun l k i => ?_) (fun l C k D M => ?_) (fun l C k D M => ?_) (fun l C k D M => ?_) (fun l => ?_) (fun l => ?_) (fun lf hlf => ?_) f3 (fun hkeep => ?_)
       ·have hbl : (renewBox r (.box e) (mixLs b 0 ls (leaves t y b.md 0)) env).length = env.length := by unfold renewBox; rw [Y5, Y8]
        rw [<- hbl] at hRP;have := RE.commit hRP (by rw [hbl]; exact hd);rw [Y0] at this;exact hn _ _ _ hK this (by rw [Y19, hbl]) rfl
       ·rw [Y45 hly.symm] at O;show (if (slotAt b.lv l).isFx then bs r (l + 1) else A.getD l []) = [];split
        ·exact htail l O
        ·rw [Xk, X23 (by rw [hL2, <- hL1, hly]; exact O)]; rfl
       ·cases l with
        | zero =>
         obtain rfl : k = B := by simpa [br] using i
         exact ⟨(X10.1 hBh').1, .inr ⟨0, hBin⟩⟩
        | succ l =>
         have i : k ∈ (if (slotAt b.lv l).isFx then bs r (l + 1) else A.getD l []) := i;cases hs : (slotAt b.lv l).isFx with
         | true => rw [X4 hs] at i; exact ⟨X1e (j.own _ _ _ i).2 hsz, .inr ⟨l + 1, i⟩⟩
         | false =>
          rw [X2 (by rw [hs]; simp)] at i;have Y := Y89 i;obtain ⟨m, _, E⟩ := hL3 l _ _ hs (X1 (show l < (leaves t y b.md 0).length by rw [hL1, <- hL2]; exact Y)) (X1 (show l < ch'.length by rw [<- hL2]; exact Y));exact ⟨Rep.lt E k i, hback k (I l k i)⟩
       ·cases l with
        | zero => simp [bn] at i
        | succ l =>
         have i : k ∈ bdsN.getD l [] := i;have Y := Y89 i;obtain ⟨m, _, E⟩ := f6 l _ _ (X1 (show l < ls2.length by omega)) (X1 (show l < chs.flatten.length by omega));exact ⟨Rep.lt E k i, hback k (hmemN l k i)⟩
       ·cases l with
        | zero =>
         obtain rfl : k = B := by simpa [br] using D
         cases C with
         | zero => rfl
         | succ C =>
          exfalso;have M : k ∈ (if (slotAt b.lv C).isFx then bs r (C + 1) else A.getD C []) := M;split at M
          ·have := (j.disj _ _ _ _ _ hBin M).2; omega
          ·exact hBn (I C k M)
        | succ l =>
         replace D : k ∈ (if (slotAt b.lv l).isFx then bs r (l + 1) else A.getD l []) := D
         cases C with
         | zero =>
          have hkB : k = B := by simpa [br] using M
          exfalso;split at D
          ·have := (j.disj _ _ _ _ _ (hkB ▸ hBin) D).2; omega
          ·exact hBn (hkB ▸ I l k D)
         | succ C =>
          have M : k ∈ (if (slotAt b.lv C).isFx then bs r (C + 1) else A.getD C []) := M;split at D
          ·rename_i s1;split at M
           ·exact (j.disj _ _ _ _ _ D M).2
           ·exact absurd (X3 _ (I C k M)) (W l k s1 D).1
          ·split at M
           ·rename_i s2;exact absurd (X3 _ (I l k D)) (W C k s2 M).1
           ·rw [g2 l C k D M]
       ·cases l with
        | zero => simp [bn] at D
        | succ l => cases C with
         | zero => simp [bn] at M
         | succ C => rw [g4 l C k D M]
       ·cases C with
        | zero => simp [bn] at M
        | succ C =>
         have M : k ∈ bdsN.getD C [] := M;have hkx : k ∈ N := by rw [f5]; exact Yj M
         cases l with
         | zero =>
          obtain rfl : k = B := by simpa [br] using D
          exact hBn (Xf _ hkx)
         | succ l =>
          have D : k ∈ (if (slotAt b.lv l).isFx then bs r (l + 1) else A.getD l []) := D;split at D
          ·rename_i s1;exact (W l k s1 D).1 (X3 _ (Xf _ hkx))
          ·exact hn3 k (Yj D) k hkx rfl
       ·cases l with
        | zero => simp [br]
        | succ l =>
         show (if (slotAt b.lv l).isFx then bs r (l + 1) else A.getD l []).Nodup;split
         ·exact j.nodup _ _
         ·exact g1 l
       ·cases l with
        | zero => exact X13
        | succ l => exact g3 l
       ·obtain ⟨l, O⟩ := Xx hlf;have hsettled : lf.m.settled = true := by
         rcases Y72 O with ⟨_, h⟩ | ⟨_, h⟩
         ·exact (Y3w hfit h).1
         ·rcases Y29 b.md t y 0 l lf h with ⟨_, G⟩ | ⟨_, G⟩
          ·rw [G]; rfl
          ·rw [G]; unfold BoxSig.md; cases slotAt b.lv (0 + l) <;> rfl
        obtain ⟨t1, x1, m1⟩ := lf;cases m1 with
        | at_ _ => rfl
        | bor _ _ _ => simp [Mode.settled] at hsettled
        | dead => rfl
       ·-- what may be read behind the call
        have eR : ∀ (s' : St), s'.bs = upd (upd bs r br) env.length bn -> s'.bs r = br := fun s' e => by rw [e, Y1 _ _ (X1c hrl), Y0]
        have hown : ∀ p l k, k ∈ (upd (upd bs r br) env.length bn) p l -> k ∈ bs p l \/ k ∈ B :: (A.flatten ++ N) := by
         intro p l k i;by_cases hpN : p = env.length
         ·subst hpN;rw [Y0] at i;cases l with
          | zero => simp [bn] at i
          | succ l => exact .inr (X3 _ (hmemN l k i))
         ·rw [Y1 _ _ hpN] at i;by_cases hpr : p = r
          ·subst hpr;rw [Y0] at i;cases l with
           | zero => exact .inl (by rw [hB0]; exact i)
           | succ l =>
            replace i : k ∈ (if (slotAt b.lv l).isFx then bs p (l + 1) else A.getD l []) := i
            split at i
            ·exact .inl i
            ·exact .inr (X3 _ (I l k i))
          ·rw [Y1 _ _ hpr] at i;exact .inl i
        have hown2 : ∀ l k, k ∈ bs r (l + 1) -> (slotAt b.lv l).isFx = false -> k ∉ B :: (A.flatten ++ N) -> ∀ p C, k ∉ (upd (upd bs r br) env.length bn) p C := by
         intro l k i hs U p C G;rcases hown p C k G with h | h
         ·obtain ⟨rfl, rfl⟩ := j.disj _ _ _ _ _ h i;rw [Y1 _ _ (X1c hrl), Y0] at G
          replace G : k ∈ (if (slotAt b.lv l).isFx then bs p (l + 1) else A.getD l []) := G
          rw [X2 (by rw [hs]; simp)] at G;exact U (X3 _ (I l k G))
         ·exact U h
        have hnewk : ∀ k, w.heap.size <= k -> k ∉ B :: (A.flatten ++ N) -> ∀ p C, k ∉ (upd (upd bs r br) env.length bn) p C := by
         intro k i U p C G;rcases hown p C k G with h | h
         ·exact absurd (j.own _ _ _ h).2 (Nat.not_lt.2 i)
         ·exact U h
        have hRo : (dropAt b.k avs).all bareAV = true -> boxFxRo b 0 ls = true -> ∀ k, (S k \/ k ∈ V.flatten \/ w.heap.size <= k) -> k ∉ B :: (A.flatten ++ N) -> (∀ p C, k ∉ (upd (upd bs r br) env.length bn) p C) /\ (c.S0 k \/ c.mine k) := by
         intro hb1 hb2 k i U;have hbare : ∀ v ∈ dropAt b.k avs, v.refs = [] /\ v.ptrs = [] := fun v hv => Yb3 (Xa.1 hb1 v hv);rcases i with i | i | i
         ·rcases i with i | ⟨v, hv, q, Z, _⟩ | ⟨v, hv, q, Z, _⟩ | ⟨l, O, i⟩
          ·exact ⟨fun p C G => (hown p C k G).elim (i.1 p C) U, i.2⟩
          ·rw [(hbare v hv).1] at Z; simp at Z
          ·rw [(hbare v hv).2] at Z; simp at Z
          ·exfalso;by_cases Y : l < ls.length
           ·have hno := Y7p (n := 0) (l := l) hb2 (X1 Y) (by rw [X14]; exact O);have := (hleaf0 l _ _ (X1 Y) (X1 (show l < (cs r).length by omega))).held hno;have h0 : bs r (l + 1) = [] := this.1;rw [h0] at i; simp at i
           ·rw [htail l om] at i; simp at i
         ·obtain ⟨l, hs, h⟩ := hin k i;exact ⟨hown2 l k h hs U, .inr (j.own _ _ _ h).1⟩
         ·exact ⟨hnewk k i U, .inr (j.mine_new i)⟩
        refine ⟨fun l lf u O hu => ?_, ?_⟩
        ·have ebr : (upd (upd bs r br) env.length bn) r (l + 1) = if (slotAt b.lv l).isFx then bs r (l + 1) else A.getD l [] := by rw [Y1 _ _ (X1c hrl), Y0]
         rcases Y72 O with ⟨s1, D⟩ | ⟨s1, D⟩
         ·rw [X14] at s1;have h5 := hleaf0 l lf u D (by rw [<- hfx l s1]; exact hu);have hset := (Y3w hfit D).1;have hch : lf.chg noG = lf := by
           obtain ⟨t1, x1, m1⟩ := lf;cases m1 <;> rfl
          have hrefs : lf.refs = [] := by
           obtain ⟨t1, x1, m1⟩ := lf;cases m1 with
           | at_ _ => rfl
           | bor _ _ _ => simp [Mode.settled] at hset
           | dead => rfl
          have h6 := LeafRel.chg (g := noG) (L := fun _ _ => False) (r' := r) hkeep (fun _ _ _ _ _ _ h => h.elim) (fun q Z => by rw [hrefs] at Z; simp at Z) (by show (upd (upd bs r br) env.length bn) r (l + 1) = _; rw [ebr, X4 s1]) (fun k i => hsame k (j.own _ _ _ i).2 (W l k s1 i).2) h5;rw [hch] at h6;exact h6
         ·rw [X14] at s1;obtain ⟨m, G, E⟩ := hL3 l lf u s1 D hu;have hmd := Y29 b.md t y 0 l lf D;rw [X14] at hmd;have Y : l < ls.length := by rw [<- hly]; exact (X5.1 D).1
          have htt : ls[l].t = lf.t := by
           have q1 : ls.map Leaf.t = flat t := by simpa [typedAs] using hty
           have q2 := Y15 t y b.md 0;have q3 := congrArg (fun z => z[l]?) (q1.trans q2.symm);simp only [X18, D, X1 Y, X1w, X0] at q3;exact q3
          obtain ⟨t1, x1, m1⟩ := lf;simp only at G E hmd htt;subst G;refine LeafRel.of_rep ?_ ?_
          ·rcases hmd with ⟨_, h⟩ | ⟨_, h⟩
           ·obtain rfl : m = .ro := by simpa using h
            trivial
           ·unfold BoxSig.md at h;cases Z : slotAt b.lv l <;> rw [Z] at h <;> (simp [Slot.mode] at h; subst h; trivial)
          ·show Rep _ w' t1 m [u] x1 ((upd (upd bs r br) env.length bn) r (l + 1));rw [ebr, X2 (by rw [s1]; simp)];rcases hcalm with ⟨_, hcm⟩ | ⟨hb1, hb2⟩
           ·rcases hmd with ⟨hf, _⟩ | ⟨⟨e0, τ, hs⟩, h⟩
            ·obtain ⟨q1, q2⟩ := Rep.flat (w' := w') (m' := m) hf E;rw [q1]; exact q2
            ·have := Y7o hcm (X1 Y) e0 τ (htt.trans hs);rw [X14] at this;have hdp : slotAt b.lv l = .dp := this.resolve_left (fun e => by rw [e] at s1; cases s1);unfold BoxSig.md at h;rw [hdp] at h;obtain rfl : m = .dp := by simpa [Slot.mode] using h
             exact Rep.dpS E
           ·exact Rep.move (fun k i _ => ⟨hRo hb1 hb2 k i.1 i.2, rfl⟩) (fun _ _ => rfl) E
        ·refine ⟨?_, ?_, fun l O => ?_, fun l lf u O hu => ?_⟩
         ·show KCells c w' ((upd (upd bs r br) env.length bn) env.length 0) k2 _ ((upd (upd cs r ch') env.length chs.flatten) env.length);rw [Y0, Y0];exact f1.bare rfl
         ·show ls2.length = ((upd (upd cs r ch') env.length chs.flatten) env.length).length;rw [Y0]; exact f2
         ·show (upd (upd bs r br) env.length bn) env.length (l + 1) = [];rw [Y0];show bdsN.getD l [] = [];rw [Xk, X23 om]; rfl
         ·replace hu : chs.flatten[l]? = some u := by
           have : ((upd (upd cs r ch') env.length chs.flatten) env.length)[l]? = some u := hu
           rwa [Y0] at this
          rw [Y2] at O;obtain ⟨m, G, E⟩ := f6 l lf u O hu;have hmd := hmode lf (X8 O);obtain ⟨t1, x1, m1⟩ := lf;simp only at G E;subst G;refine LeafRel.of_rep (by cases m <;> first | trivial | exact absurd rfl (hmd _)) ?_;show Rep _ w' t1 m [u] x1 ((upd (upd bs r br) env.length bn) env.length (l + 1));rw [Y0];refine Rep.move (fun k i _ => ⟨?_, rfl⟩) (fun _ _ => rfl) E;obtain ⟨X, hk2⟩ := i;rcases hSr with hSr | ⟨hSr, hb1, hb2⟩
          ·have X := X.resolve_left (hSr k);exact ⟨hnewk k X hk2, .inr (j.mine_new X)⟩
          ·exact hRo hb1 hb2 k (X.elim (fun h => (hSr k h).imp id (fun h => .inl ((Xr.1 h).resolve_left (fun e => hk2 (by rw [e]; simp))))) (fun h => .inr (.inr h))) hk2
   ·simp at hK
  ·simp at hK
 ·simp at hK
end
section
variable {P : Program} {o : Oper} {a : Act} {w : World} {R : Type} {K : Env -> Option R} {r : R} {next : Act -> World -> Prop} {Q : Exit -> Act -> World -> Prop} {c : Cx} {d : Nat} {T : Tab} {env : Env} {sig : FuncId -> Option Sig} {caps : FuncId -> List Ty} {orc : Orc}
theorem Y57 (A : OrcOk P sig orc) {I : Call} {extra : List AV} {ex : List Value} (m : o.op = .call I) (h : o.dst = some d) (F : RE c env a.tmps w) (B : d < env.length)
  (i : Enterable P f -> (execOp a.eval o).run P w = .ok (.enter f (I.args.map (evT a.tmps) ++ ex.toArray)) w) (l : ∀ vs cs bs, Rel c (SS env noP a.tmps vs w cs bs) -> ValCs c (SS env noP a.tmps vs w cs bs) extra ex) (z : ∀ v ∈ extra, (∀ q ∈ v.refs, q.1 < env.length))
  (g : call1 sig caps orc (some d) f I.args.toList extra env K = some r) (D : Next c a K r env.length next) : o.wp P a w next Q := by
 unfold call1 at g;split at g
 ·simp at g
 ·rename_i sg y;split at g
  ·rename_i b U;exact Ye8 m h F B i l (fun args q x L M => by
    have := A f sg args q x y L M;rw [U] at this;exact this) g D
  rename_i j;split at g
  ·rename_i id E;exact Ydy m h F B i l z (fun args q x L M => by
    have := A f sg args q x y L M;rw [j, E] at this;exact this) g D
  rename_i E;have j := And.intro j E;split at g
  ·rename_i G;split at g
   ·rename_i p;split at g
    ·rename_i C;exact Ydz A m h F B i l y j G p C g D
    ·rename_i k C;exact Ye6 A m h F B i l y j G p C g D
   ·rename_i p;simp only at g;split at g
    ·rename_i N;split at g
     ·simp at g
     ·rename_i rvs O;split at g
      ·simp at g
      rename_i q V;exact Yev A m h F B i l z y j G gr N.1 N.2.1 N.2.2 O V g D
    ·simp at g
  ·rename_i G;split at g
   ·rename_i p;exact Ye5 A m h F B i l y j G p g D
   ·rename_i p;exact Ye4 A m h F B i l y j G (by simpa using p) g D
theorem Yb4 (hT : TabOk P T) (hO : OrcOk P sig orc) (A : o.dst = some d) (B : RE c env a.tmps w) (D : d < env.length) (g : evVal T sig caps orc d o env K = some r) (E : Next c a K r env.length next) : o.wp P a w next Q := by
 cases j : o.op with
 | move x =>
  simp [evVal, j] at g;exact Yer j A B D g E
 | assign x =>
  simp [evVal, j] at g;split at g
  ·exact Ybr j A B D g E
  split at g
  ·rename_i env' v N;exact Yd1 j A B D N g E
  ·simp at g
 | pick cc x y =>
  simp [evVal, j] at g;split at g
  ·rename_i t hb;exact Yes j A B D hb g E
  ·simp at g
 | alloc e =>
  simp [evVal, j] at g;split at g
  ·rename_i τ L;exact Ydx hT j A B D L g E
  ·split at g
   ·rename_i L;exact Yb0 hT j A B D L g E
   ·simp at g
 | box e x =>
  simp [evVal, j] at g;split at g
  ·rename_i τ L;split at g
   ·rename_i env' ls N;exact Yf4 hT j A B D L N g E
   ·simp at g
  ·simp at g
 | build t parts =>
  simp [evVal, j] at g;split at g
  ·rename_i τ L;split at g
   ·rename_i ha;split at g
    ·rename_i env' ls hb;exact Ye0 hT j A B D L ha hb g E
    ·simp at g
   ·simp at g
  ·simp at g
 | buildSlice t n parts =>
  simp [evVal, j] at g;split at g
  ·rename_i te L;split at g
   ·rename_i O;split at g
    ·rename_i env' xs dp hb;exact Y8z hT j A B D L O.1 O.2.1 O.2.2 hb g E
    ·simp at g
   ·simp at g
  ·simp at g
 | load t x =>
  simp [evVal, j] at g;split at g
  ·rename_i τ L;split at g
   ·rename_i q off I;split at g
    ·rename_i e ls hb;split at g
     ·rename_i hty;exact Y9j hT j A B D L I hb hty g E
     ·simp at g
    ·simp at g
   ·rename_i ls wr I;split at g
    ·rename_i hty;exact Y9k hT j A B D L I hty g E
    ·simp at g
   ·simp at g
  ·split at g
   ·rename_i L;split at g
    ·rename_i f cs I;exact Ybx hT j A B D L I g E
    ·simp at g
   ·simp at g
 | fieldAddr s x f =>
  simp [evVal, j] at g;split at g
  ·rename_i off τ hf;split at g
   ·rename_i q o' I;exact Y6k hT j A B D hf I g E
   ·rename_i ls wr I;cases wr with
    | none => exact Y3r hT j A B D hf I g E
    | some z => obtain ⟨_, _, _, _, _⟩ := z; exact Y3r hT j A B D hf I g E
   ·simp at g
  ·simp at g
 | field s x f =>
  simp [evVal, j] at g;split at g
  ·rename_i off τ hf;split at g
   ·rename_i ls I;split at g
    ·rename_i hty;exact Ydw hT j A B D hf I hty g E
    ·simp at g
   ·simp at g
  ·simp at g
 | indexAddr t x i =>
  simp [evVal, j] at g;split at g
  ·rename_i te L;split at g
   ·rename_i lx n I hi;split at g
    ·rename_i xs hxs;split at g
     ·simp at g
     ·rename_i hl;obtain ⟨V, g⟩ := Y1p g;simp at V;exact Y9i hT j A B D L I hi hxs (by simpa using hl) V.1 V.2 g E
    ·simp at g
   ·simp at g
  ·simp at g
 | index t x i =>
  simp [evVal, j] at g;split at g
  ·rename_i s k n N hs hi;exact Ydu hT j A B D N hs hi g E
  ·simp at g
 | extract x i =>
  simp only [evVal, j] at g;split at g
  ·rename_i s I;split at g
   ·rename_i sh ls hs;split at g
    ·rename_i off agg n ho;split at g
     ·rename_i hlive;split at g
      ·split at g
       ·rename_i hbare;exact Y88 j A B D hs ho hlive hbare g E
       ·simp at g
      ·rename_i hno;exact Y8y j A B D hs ho gr g E
     ·simp at g
    ·simp at g
   ·simp at g
  ·simp at g
 | binOp op t x y t' =>
  simp [evVal, j] at g;exact Ydt hT j A B D g E
 | unOp op t x =>
  simp [evVal, j] at g;exact Yet j A B D g E
 | convert s dt x =>
  simp [evVal, j] at g;split at g
  ·rename_i k k' k2 n hs N hi;exact Ybs hT j A B D hs N hi g E
  ·split at g
   ·rename_i b hb;exact Ye7 hT j A B D hb g E
   ·simp at g
 | slice t x lo hi mx =>
  simp [evVal, j] at g;split at g
  ·simp at g
  ·split at g
   ·rename_i lo' hi' hlo hhi;split at g
    ·rename_i s hs;split at g
     ·rename_i N;obtain ⟨V, g⟩ := Y1p g;simp at V;exact Y9u hT j A B D N hs hlo hhi V.1 V.2.1 V.2.2 g E
     ·simp at g
    ·split at g
     ·rename_i te L;split at g
      ·rename_i lx I;split at g
       ·rename_i xs hxs;split at g
        ·simp at g
        ·rename_i hl;obtain ⟨V, g⟩ := Y1p g;simp at V;exact Ye2 hT j A B D L I hxs (by simpa using hl) hlo hhi V.1 V.2.1 V.2.2 g E
       ·simp at g
      ·simp at g
     ·simp at g
   ·simp at g
 | makeSlice t l cc =>
  simp [evVal, j] at g;split at g
  ·rename_i te n m L hl O;obtain ⟨V, g⟩ := Y1p g;simp at V;exact Y9t hT j A B D L hl O V.1 V.2.1 V.2.2 g E
  ·simp at g
 | makeFunc fn first captured =>
  cases fn with
  | func f =>
   simp only [evVal, j] at g;split at g
   ·rename_i hf;split at g
    ·rename_i cs O;exact Yay j A B D hf O g E
    ·simp at g
   ·simp at g
  | _ => simp [evVal, j] at g
 | nilCheck x =>
  simp [evVal, j] at g;split at g
  ·rename_i q off I;exact Y6w j A B D I g E
  ·rename_i f cs I;exact Y7b j A B D I g E
  ·rename_i f xs I;exact Y6x j A B D I g E
  ·rename_i f cs I;exact Y70 j A B D I g E
  ·rename_i ls wr I;exact Y6y j A B D I g E
  ·simp at g
 | call cl =>
  simp [evVal, j] at g;split at g
  ·rename_i f O;refine Y57 hO (extra := []) (ex := []) j A B D (fun L => ?_) (fun _ _ _ _ => rfl) sm g E;simp [execOp, j, resolve, O, Deferred.ofValue, invoke, Y6, evT, Y2p L]
  ·rename_i t O;split at g
   ·rename_i f cs N;have X : t < env.length := by
     apply Xs;intro h;rw [Y11 env t (X15 h)] at N;cases N
    have M : ∀ vs C bs, Rel c (SS env noP a.tmps vs w C bs) -> ∃ us, evT a.tmps (.tmp t) = .func (.func f) #[] us.toArray /\ PtrRels (SS env noP a.tmps vs w C bs) cs us := by
     intro vs C bs G;have W := G.av t;have e1 : (SS env noP a.tmps vs w C bs).env t = .clo f cs := by show ovl env noP t = _; rw [Y7 X]; exact N
     have e2 : (SS env noP a.tmps vs w C bs).tm t = evT a.tmps (.tmp t) := X4 (B.choose_spec.len ▸ X);rw [e1, e2] at W;exact W.2
    obtain ⟨vs, hlen, C, bs, G, hno⟩ := id B;obtain ⟨us, e1, e2⟩ := M vs C bs G;refine Y57 hO (ex := us) j A B D (fun L => ?_) (fun vs2 cs2 Z U => ?_) (fun v hv => ?_) g E
    ·simp [execOp, j, resolve, O, Y6, e1, Deferred.ofValue, invoke, Y2p L]
    ·obtain ⟨us', f1, f2⟩ := M vs2 cs2 Z U;rw [e1] at f1;have : us = us' := by simpa using f1
     subst this;have go : ∀ {cs : List (Nat × Nat)} {us : List Value}, PtrRels (SS env noP a.tmps vs2 w cs2 Z) cs us -> ValCs c (SS env noP a.tmps vs2 w cs2 Z) (cs.map fun c => AV.path c.1 c.2) us := by
      intro cs
      induction cs with
      | nil => intro us h; exact h
      | cons p cs ih =>
       intro us h;obtain ⟨v, vs', h1, h2, h3⟩ := h;exact ⟨v, vs', h1, ⟨[], h2⟩, ih h3⟩
     exact go f2
    ·simp only [X1b] at hv;obtain ⟨p, _, rfl⟩ := hv;simp [AV.refs]
   ·rename_i f xs N;have X : t < env.length := by
     apply Xs;intro h;rw [Y11 env t (X15 h)] at N;cases N
    have M : ∀ vs C bs, Rel c (SS env noP a.tmps vs w C bs) -> ∃ us, evT a.tmps (.tmp t) = .func (.func f) #[] us.toArray /\ PtrVs (RoS c (SS env noP a.tmps vs w C bs)) w xs us := by
     intro vs C bs G;have W := G.av t;have e1 : (SS env noP a.tmps vs w C bs).env t = .cloR f xs := by show ovl env noP t = _; rw [Y7 X]; exact N
     have e2 : (SS env noP a.tmps vs w C bs).tm t = evT a.tmps (.tmp t) := X4 (B.choose_spec.len ▸ X);rw [e1, e2] at W;exact W.2
    obtain ⟨vs, hlen, C, bs, G, hno⟩ := id B;obtain ⟨us, e1, e2⟩ := M vs C bs G;refine Y57 hO (ex := us) j A B D (fun L => ?_) (fun vs2 cs2 Z U => ?_) (fun v hv => ?_) g E
    ·simp [execOp, j, resolve, O, Y6, e1, Deferred.ofValue, invoke, Y2p L]
    ·obtain ⟨us', f1, f2⟩ := M vs2 cs2 Z U;rw [e1] at f1;have : us = us' := by simpa using f1
     subst this;exact Y54 f2
    ·simp at hv;obtain ⟨p, _, rfl⟩ := hv;rw [Y7e];simp
   ·rename_i f caps0 N;have X : t < env.length := by
     apply Xs;intro h;rw [Y11 env t (X15 h)] at N;cases N
    have M : ∀ vs C bs, Rel c (SS env noP a.tmps vs w C bs) -> ∃ v0 us, evT a.tmps (.tmp t) = .func (.func f) #[] us.toArray /\ SelfAt c (SS env noP a.tmps vs w C bs) f caps0 v0 us := by
     intro vs C bs G;have W := G.av t;have e1 : (SS env noP a.tmps vs w C bs).env t = .cloS f caps0 := by show ovl env noP t = _; rw [Y7 X]; exact N
     have e2 : (SS env noP a.tmps vs w C bs).tm t = evT a.tmps (.tmp t) := X4 (B.choose_spec.len ▸ X);rw [e1, e2] at W;exact W.2
    obtain ⟨vs, hlen, C, bs, G, hno⟩ := id B;obtain ⟨v0, us, e1, e2⟩ := M vs C bs G;refine Y57 hO (ex := us) j A B D (fun L => ?_) (fun vs2 cs2 Z U => ?_) (fun v hv => ?_) g E
    ·simp [execOp, j, resolve, O, Y6, e1, Deferred.ofValue, invoke, Y2p L]
    ·obtain ⟨v0', us', f1, f2⟩ := M vs2 cs2 Z U;rw [e1] at f1;have : us = us' := by simpa using f1
     subst this;exact Yby f2
    ·simp at hv;obtain ⟨p, _, rfl⟩ := hv;rw [Ybz];simp
   ·simp at g
  ·rename_i O;split at g
   ·rename_i x t F Y;split at g
    ·rename_i s hs;split at g
     ·rename_i N;exact Ybt hT j O F Y A B D hs N g E
     ·simp at g
    ·split at g
     ·rename_i e τ N;split at g
      ·rename_i lx I;split at g
       ·rename_i xs hxs;split at g
        ·rename_i hl;exact Y9f hT j O F Y A B D N I hxs hl g E
        ·simp at g
       ·simp at g
      ·simp at g
     ·simp at g
   ·simp at g
  ·rename_i O;split at g
   ·rename_i s x t t' F Y;split at g
    ·rename_i htt;subst htt;split at g
     ·rename_i r1 j1 i1 o1 hnest;split at g
      ·rename_i te hte;exact Yc3 hT j O F Y A B D hte hnest g E
      ·simp at g
     ·exact Yd4 hT j O F Y A B D g E
    ·simp at g
   ·simp at g
  ·rename_i O;split at g
   ·rename_i x y F;split at g
    ·rename_i k n k' m I hy;split at g
     ·rename_i hkk;subst hkk;exact Y8h (t := 0) (mx := true) j O F A B D I hy g E
     ·simp at g
    ·simp at g
   ·simp at g
  ·rename_i O;split at g
   ·rename_i x y F;split at g
    ·rename_i k n k' m I hy;split at g
     ·rename_i hkk;subst hkk;exact Y8h (t := 0) (mx := false) j O F A B D I hy g E
     ·simp at g
    ·simp at g
   ·simp at g
  ·simp at g
 | _ => simp [evVal, j] at g
end
section
variable {P : Program} {R : Type} {r : R} {c : Cx} {T : Tab} {sig : FuncId -> Option Sig} {caps : FuncId -> List Ty} {orc : Orc}
theorem Y2n : ∀ {env : Env} {d : Nat} {v : AV}, get env d = v -> put env d v = env
 | [], d, v, h => by cases d <;> rfl
 | u :: env, 0, v, h => by
  have h : u = v := h;rw [<- h]; rfl
 | u :: env, d + 1, v, h => by
  have := Y2n (env := env) (d := d) (v := v) h;show u :: put env d v = _;rw [this]
theorem RE.len (h : RE c env tmps w) : env.length = tmps.size := h.choose_spec.len
theorem RE.skip (j : RE c env a.tmps w) (b : o.dst = some d) (i : d < env.length) : RE c (setD (some d) env .skip) (a.put o.dst undef).tmps w := by
 obtain ⟨vs, h⟩ := j;have g := h.addVal (n := env.length) (Xd _) rfl (av := .skip) (v := undef) (fun cs bs _ => ⟨[], rfl⟩) ⟨by simp [AV.refs], by simp [AV.ptrs]⟩;have := RE.commit g i;rw [Y0] at this;rw [b];exact this
theorem Ye9 (tmps : Array Value) (d : Nat) (v : Value) (h : tmps.getD d undef = v) (b : d < tmps.size) : tmps.setIfInBounds d v = tmps := by
 apply Array.ext_getElem?;intro i;rw [X1z];split
 ·simp_all
 ·rfl
theorem Yc9 (hT : TabOk P T) (N : OrcOk P sig orc) {K : Env -> Option R} (p : RE c env a.tmps w) (b : evOp T sig caps orc o env K = some r) (m : Next c a K r env.length next) : o.wp P a w next Q := by
 unfold evOp at b;split at b
 ·rename_i d g;split at b
  ·rename_i O;exact Yb4 hT N g p O b m
  ·simp at b
 ·rename_i g;split at b
  ·rename_i t x v h;unfold store1 at b;split at b
   ·rename_i D;exact Yc0 hT h g p D b m
   split at b
   ·rename_i s1 r1 j1 Z o1 l1 U;split at b
    ·rename_i A;exact Y9x hT h g p U A b m
    ·simp at b
   unfold storePlain at b;split at b
   ·simp at b
   ·rename_i τ A;split at b
    ·simp at b
    ·rename_i G ls l;split at b
     ·rename_i q off B;split at b
      ·rename_i Y X I;split at b
       ·simp only at b;split at b
        ·rename_i e L M;split at b
         ·rename_i z;exact Y90 hT h g p A l B M z.1.1 z.1.2 z.2 b m
         ·simp at b
        ·simp at b
       ·simp at b
      ·simp at b
     ·rename_i le q j i oo B;split at b
      ·rename_i e te xs lv V;split at b
       ·rename_i z;obtain ⟨F, E⟩ := z;obtain ⟨C, b⟩ := Y1p b;simp only [X9, X1a] at C;split at b
        ·rename_i y W;exact Y91 hT F h g p A l B V E C.1 C.2 W b m
        ·simp at b
       ·simp at b
      ·simp at b
     ·rename_i B;exact Y92 hT h g p A l B b m
     ·simp at b
  ·simp at b
theorem Y1v (hT : TabOk P T) (L : OrcOk P sig orc) {ops : Array Oper} {l2 : List Nat} {Q : Exit -> Act -> World -> Prop} {N : Nat} {D : List Deferred} {K : Env -> Option R} (M : ∀ env' X w', K env' = some r -> RE c env' X.tmps w' -> env'.length = N -> X.defers = D -> wpOps P ops Q l2 X w') :
  ∀ (l : List Nat) {env : Env} {a : Act} {w : World}, RE c env a.tmps w -> env.length = N -> a.defers = D -> evOps T sig caps orc ops (l.filterMap (ops[·]?)) env K = some r -> wpOps P ops Q (l ++ l2) a w
 | [], env, a, w, hr, hN, hD, hK => M env a w hK hr hN hD
 | i :: l, env, a, w, hr, hN, hD, hK => by
  rw [X20];unfold wpOps;cases hi : ops[i]? with
  | none =>
   simp only;rw [List.filterMap_cons_none (by exact hi)] at hK;exact Y1v hT L M l hr hN hD hK
  | some o =>
   simp only;rw [X1x (by exact hi)] at hK;have run : ∀ {m : Env}, RE c m a.tmps w -> m.length = N -> evOp T sig caps orc o m (fun env' => evOps T sig caps orc ops (l.filterMap (ops[·]?)) env' K) = some r -> o.wp P a w (wpOps P ops Q (l ++ l2)) Q := by
    intro m C G p;refine Yc9 hT L C p (fun env' X w' Y hr' hl' Z => ?_);exact Y1v hT L M l hr' om (Z.trans hD) Y
   have skip : ∀ {m : Env}, RE c m a.tmps w -> m.length = N -> skipOp o m (fun env' => evOps T sig caps orc ops (l.filterMap (ops[·]?)) env' K) = some r -> wpOps P ops Q (l ++ l2) (a.put o.dst undef) w := by
    intro m C G p;unfold skipOp at p;split at p
    ·rename_i d q;split at p
     ·rename_i B;refine Y1v hT L M l (C.skip q B) (by rw [Y19]; exact G) ?_ p;rw [q];exact hD
     ·simp at p
    ·rename_i q;rw [q];exact Y1v hT L M l C G hD p
   unfold evOps at hK;cases U : o.guard with
   | none =>
    rw [U] at hK;simp only at hK;have W : Region.wanted o (yielded ops a.tmps) = true := by simp [Region.wanted, U]
    rw [X4 W];exact .inl (run hr hN hK)
   | some g =>
    obtain ⟨j, F⟩ := g;rw [U] at hK;simp only at hK;cases hj : (ops[j]?).bind (·.dst) with
    | none => grind
    | some d =>
     rw [hj] at hK;simp only at hK;have E := hr.len;have hdl : ∀ v, get env d = v -> v ≠ .undef -> d < env.length := fun v I hne => by
      apply Xs;intro h;rw [Y11 env d (X15 h)] at I;exact hne I.symm
     have y : d < env.length -> yielded ops a.tmps j = match a.tmps.getD d undef with | .bool b => some b | _ => none := fun B => by
      unfold yielded;rw [hj];simp only [X3a];have hd2 : d < a.tmps.size := E ▸ B;rw [X11, Xu hd2, X2y];generalize a.tmps[d] = v;cases v <;> rfl
     split at hK
     ·rename_i A;have B := hdl _ A sm;have I : a.tmps.getD d undef = undef := by
       obtain ⟨vs, hl, cs, bs, V, _⟩ := id hr;have O := V.av d;have e1 : ovl env noP d = .skip := by rw [Y7 B]; exact A
       have e2 : ovlT a.tmps vs d = a.tmps.getD d undef := X4 (E ▸ B);simp only [e1, e2] at O;exact O.1
      have W : Region.wanted o (yielded ops a.tmps) = false := by
       simp only [Region.wanted, U, y B, I];rfl
      rw [X2 (by rw [W]; simp)];exact skip hr hN hK
     ·rename_i b z
      ·have hb : bool1 (rd none env (.tmp d)) = some b := by
        simp [rd, z, borrowFrom];rfl
       have hvb := hr.bool1 hb;have B : d < env.length := Yx z;have I : a.tmps.getD d undef = .bool b := hvb;have hps : put env d (vBool b) = env := Y2n z;have W : Region.wanted o (yielded ops a.tmps) = (b == F) := by
        simp only [Region.wanted, U, y B, I];cases b <;> cases F <;> rfl
       rw [W];cases b with
       | true => grind
       | false => grind
     ·simp at hK
theorem Yb5 (hT : TabOk P T) (j : OrcOk P sig orc) {ops : Array Oper} {N : Nat} {D : List Deferred} {K : Env -> Option R} (m : ∀ env' b w', K env' = some r -> RE c env' b.tmps w' -> env'.length = N -> b.defers = D -> Q .normal b w')
  (l : List Nat) (p : RE c env a.tmps w) (i : env.length = N) (g : a.defers = D) (h : evOps T sig caps orc ops (l.filterMap (ops[·]?)) env K = some r) : wpOps P ops Q l a w := by
 have := Y1v (l2 := []) hT j (Q := Q) m l p i g h
 rwa [Xh] at this
end
section
variable {P : Program} {R : Type} {r : R} {c : Cx} {T : Tab} {sig : FuncId -> Option Sig} {caps : FuncId -> List Ty} {orc : Orc}
theorem RE.forgetD (b : RE c env tmps w) (i : d < env.length) : RE c (put (clear d env) d .undef) tmps w := by
 have l := b.len;obtain ⟨vs, h⟩ := b;have g := h.addVal (n := env.length) (Xd _) rfl (av := .undef) (v := tmps.getD d undef) (fun cs bs _ => ⟨[], trivial⟩) ⟨by simp [AV.refs], by simp [AV.ptrs]⟩;have := RE.commit g i;rw [Y0, Ye9 tmps d _ rfl om] at this;unfold setD at this;unfold clear;simp only at this;split at this
 ·grind
 ·rename_i j; rw [X2 j]; exact this
theorem Y2i {keep : List Nat} {tmps : Array Value} {w : World} : ∀ (b : List Nat) {env : Env}, RE c env tmps w -> (∀ d ∈ b, d < env.length) -> RE c (dropAll keep b env) tmps w /\ (dropAll keep b env).length = env.length
 | [], env, hr, _ => ⟨hr, rfl⟩
 | d :: b, env, hr, hd => by
  unfold dropAll;split
  ·exact Y2i b hr (fun i g => hd i (X3 _ g))
  ·have j := hr.forgetD (hd d Xp);have h : (put (clear d env) d .undef).length = env.length := by
    rw [Y5]; unfold clear; split
    ·rfl
    ·exact Y1j _ _
   obtain ⟨l, k2⟩ := Y2i (keep := keep) b j (fun i g => gr);exact ⟨l, k2.trans h⟩
theorem RE.drew (i : RE c env tmps w) : RE c env tmps { w with drawn := w.drawn + 1 } := by
 obtain ⟨vs, g, cs, bs, h, b⟩ := i;exact ⟨vs, g, cs, bs, h.world (w' := { w with drawn := w.drawn + 1 }) ⟨rfl, rfl, rfl, Xd _, fun _ _ => rfl⟩, b⟩
def DrawHyp {R : Type} (T : Tab) (sig : FuncId -> Option Sig) (caps : FuncId -> List Ty) (orc : Orc) (g : Array Oper -> Env -> (Env -> Option R) -> Option R) : Prop :=
 ∀ (ops : Array Oper) (env : Env) (K : Env -> Option R) (r : R), g ops env K = some r -> ∀ t, ∃ b, evOps T sig caps orc ops (b.filterMap (ops[·]?)) env K = some r /\
  ∀ (P : Program) (Q : Exit -> Act -> World -> Prop) (a : Act) (w : World), (∀ c a w, ¬ Q (.panic c) a w) -> ¬ LetsOut Q -> wpOps P ops Q b a w -> wpOps P ops Q (Region.linearise .any ops t) a w
theorem Oper.wp_monoQ {K : Act -> World -> Prop} {Q i : Exit -> Act -> World -> Prop} (h : ∀ e a w, Q e a w -> i e a w) (b : o.wp P a w K Q) : o.wp P a w K i := by
 unfold Oper.wp at *;generalize (execOp a.eval o).run P w = r at *;cases r with
 | ok n w' =>
  cases n <;> simp [Oper.upon] at b ⊢ <;>
   first
    | exact b
    | exact X2m b (fun e j g => by cases e <;> first | exact g | exact h _ _ _ g | exact g.imp fun a => Exists.imp fun w => h _ _ _)
 | halt x w' => cases x <;> simp [Oper.upon] at b ⊢ <;> first | exact b | exact h _ _ _ b
theorem Y3c {P : Program} {ops : Array Oper} {Q m : Exit -> Act -> World -> Prop} (h : ∀ e a w, Q e a w -> m e a w) : ∀ {l : List Nat} {a : Act} {w : World}, wpOps P ops Q l a w -> wpOps P ops m l a w
 | [], a, w, b => h _ _ _ b
 | i :: l, a, w, b => by
  rw [wpOps_cons] at b ⊢;unfold wpOp at *;split
  ·rename_i g;simp [g] at b;exact Y3c h b
  ·rename_i o g;simp [g] at b;split
   ·rename_i j;simp [j] at b;rcases b with b | ⟨y, p, A, z⟩
    ·exact .inl (Oper.wp_mono (fun a w q => Y3c h q) (Oper.wp_monoQ h b))
    ·exact .inr ⟨y, p, A, h _ _ _ z⟩
   ·rename_i j;simp [j] at b;exact Y3c h b
theorem Yda (ops : Array Oper) : (List.range ops.size).filterMap (ops[·]?) = ops.toList := by
 apply X24;intro i;rw [<- X17];have : ∀ (l : List Oper), (List.range l.length).filterMap (fun i => l[i]?) = l := by
  intro l
  induction l with
  | nil => rfl
  | cons x l g =>
   rw [X1t, List.range_succ_eq_map, X1x (by rfl), List.filterMap_map];congr 1
 have b := this ops.toList;simp only [Array.getElem?_toList] at b;rw [b]
theorem Y5t {ops : List Oper} {s : Nat} (g : RE c env tmps w) : RE c (preRow T ops s env) tmps w /\ (preRow T ops s env).length = env.length := by
 unfold preRow;split
 ·split
  ·rename_i ls z;refine ⟨?_, (Yn _ _).2⟩;have B : ∀ q ∈ (AV.con .val ls).refs, q.1 < env.length := by rw [<- z]; exact (g.refs _ _).1
   obtain ⟨vs, h⟩ := g;exact ⟨vs, h.freezeAll _ (fun l i q C => B q (Xi.2 ⟨l, i, C⟩)) (fun r => .inl rfl)⟩
  ·exact ⟨g, rfl⟩
 ·split
  ·rename_i r' j b;have m : r' < env.length := by
    unfold loadedFrom at b;split at b
    ·split at b
     ·split at b
      ·rename_i q o A;simp at b;obtain ⟨rfl, _⟩ := b;exact (g.refs none _).2 _ (by rw [A]; simp [AV.ptrs])
      ·simp at b
     ·split at b
      ·rename_i q o A;simp at b;obtain ⟨rfl, _⟩ := b;exact (g.refs none _).2 _ (by rw [A]; simp [AV.ptrs])
      ·simp at b
     ·simp at b
    ·simp at b
   refine ⟨?_, (Y3s r' j env).2⟩;obtain ⟨vs, h⟩ := g;exact ⟨vs, h.freezeAll [⟨.unit, (), .bor r' j []⟩] (fun l i p y => by
    rw [Xb.1 i] at y;simp [Leaf.refs] at y;rw [y];exact m) (fun r => .inl rfl)⟩
  ·exact ⟨g, rfl⟩
theorem Y39 {ops : List Oper} : ∀ (ps : List (Nat × Operand)) {env : Env}, RE c env tmps w -> RE c (preElems T ops ps env) tmps w /\ (preElems T ops ps env).length = env.length
 | [], env, hr => ⟨hr, rfl⟩
 | p :: ps, env, hr => by
  unfold preElems;split
  ·rename_i b j;have g := Y5t (T := T) (ops := ops) (s := b) hr;obtain ⟨h, i⟩ := Y39 ps g.1;exact ⟨h, i.trans g.2⟩
  ·exact Y39 ps hr
theorem Y8b {ops : List Oper} {s : Nat} (b : RE c env tmps w) : RE c (preStore ops s env) tmps w /\ (preStore ops s env).length = env.length := by
 unfold preStore;split
 ·split
  ·rename_i r q;split
   ·rename_i ls y;refine ⟨?_, (Yn _ _).2⟩;have g : r < env.length := (b.refs none _).2 _ (by rw [q]; simp [AV.ptrs]);obtain ⟨vs, h⟩ := b;exact ⟨vs, h.freezeAll _ (fun l m p i => by
     obtain ⟨j, _, rfl⟩ := X1b.1 m;simp only [Leaf.refs, Xb] at i;rw [i];exact g) (fun r => .inl rfl)⟩
   ·exact ⟨b, rfl⟩
  ·exact ⟨b, rfl⟩
 ·exact ⟨b, rfl⟩
theorem Ya4 {ops : List Oper} {s : Nat} (b : RE c env tmps w) : RE c (preAsg ops s env) tmps w /\ (preAsg ops s env).length = env.length := by
 unfold preAsg;split
 ·split
  ·rename_i ls g;refine ⟨?_, (Yn _ _).2⟩;have i : ∀ q ∈ (AV.con .val ls).refs, q.1 < env.length := by rw [<- g]; exact (b.refs _ _).1
   obtain ⟨vs, h⟩ := b;exact ⟨vs, h.freezeAll _ (fun l j q m => i q (Xi.2 ⟨l, j, m⟩)) (fun r => .inl rfl)⟩
  ·exact ⟨b, rfl⟩
 ·exact ⟨b, rfl⟩
theorem Y7s {ops : List Oper} {tmps : Array Value} {w : World} : ∀ (l : List Oper) {env : Env}, RE c env tmps w -> RE c (preF T ops l env) tmps w /\ (preF T ops l env).length = env.length
 | [], env, hr => ⟨hr, rfl⟩
 | o :: l, env, hr => by
  have b : ∀ env', RE c env' tmps w /\ env'.length = env.length -> RE c (preF T ops l env') tmps w /\ (preF T ops l env').length = env.length := fun env' h => by
   obtain ⟨g, k2⟩ := Y7s l h.1;exact ⟨g, k2.trans h.2⟩
  unfold preF;refine b _ ?_;split
  ·exact Y5t hr
  ·exact Y39 _ hr
  ·split
   ·exact ⟨hr, rfl⟩
   ·exact Y8b hr
  ·split
   ·exact ⟨hr, rfl⟩
   ·exact Ya4 hr
  ·exact ⟨hr, rfl⟩
theorem Y2s (hT : TabOk P T) (m : OrcOk P sig orc) {ops : Array Oper} {Q : Exit -> Act -> World -> Prop} {N : Nat} {D : List Deferred} {K : Env -> Option R} (p : ∀ env' h w', K env' = some r -> RE c env' h.tmps w' -> env'.length = N -> h.defers = D -> Q .normal h w') :
  ∀ (l : List Nat) {env : Env} {a : Act} {w : World}, RE c env a.tmps w -> env.length = N -> a.defers = D -> evOpsS T sig caps orc ops (l.filterMap (ops[·]?)) env K = some r -> wpOps P ops Q l a w
 | [], env, a, w, hr, hN, hD, g => p env a w g hr hN hD
 | i :: l, env, a, w, hr, hN, hD, g => by
  cases j : ops[i]? with
  | none =>
   rw [List.filterMap_cons_none (by exact j)] at g;unfold wpOps;simp only [j];exact Y2s hT m p l hr hN hD g
  | some o =>
   rw [X1x (by exact j)] at g;unfold evOpsS at g;split at g
   ·rename_i b env' A;obtain ⟨C, g⟩ := Y1p g;subst C;unfold wpOps;simp only [j];have E := Y94 A;have F : Region.wanted o (yielded ops a.tmps) = true := by simp [Region.wanted, E]
    rw [X4 F];refine .inl (Y95 hT hr A (fun h w' q y z => ?_));exact Y2s hT m p l q (y.trans hN) (z.trans hD) g
   ·exact Y1v (l2 := l) hT m (Q := Q) (N := N) (D := D) (fun env' h w' q y z B => Y2s hT m p l y z B q) [i] (Y7n (o := o) hr).1 ((Y7n (o := o) hr).2.trans hN) hD (by
     show evOps T sig caps orc ops ([i].filterMap (ops[·]?)) (preTup o env) _ = _;rw [X1x (by exact j)];exact g)
theorem Y2t (hT : TabOk P T) (Z : OrcOk P sig orc) (hm : P.follows .mixedOrders = true) {L : Array Oper -> Env -> (Env -> Option R) -> Option R} (C : DrawHyp (R := R) T sig caps orc L) {N : Nat} {D : List Deferred} :
  ∀ (code : Code) {m : Nat} {env : Env} {K : Exit -> Env -> Option R} {Q : Exit -> Act -> World -> Prop} {a : Act} {w : World}, RE c env a.tmps w -> env.length = N -> a.defers = D ->
   (∀ e env' A w', K e env' = some r -> RE c env' A.tmps w' -> env'.length = N -> A.defers = D -> Q e A w') -> evCode T sig caps orc L fuel ann m code env K = some r -> code.wp P Q a w := by
 intro code
 induction code with
 | skip =>
  intro m env K Q a w g j i l b;simp [evCode] at b;exact wp_skip (l _ _ _ _ b g j i)
 | region id ops G =>
  intro m env K Q a w g j i l b;simp [evCode] at b;cases G with
  | false =>
   simp at b;refine wp_region (Y2s (caps := caps) hT Z (K := K .normal) (N := N) (D := D) (fun env' A w' p q B z => l _ _ _ _ p q B z) _ g j i ?_);rw [Yda];exact b
  | true =>
   simp at b;refine wp_region_draw (fun t => ?_);simp [Region.schedule, hm];obtain ⟨p1, p2⟩ := Y7s (ops := ops.toList) ops.toList g;obtain ⟨π, q1, q2⟩ := C ops _ _ r b t;refine Y3c (Q := fun e a w => e = .normal /\ Q .normal a w) (fun e a w h => by obtain ⟨rfl, h⟩ := h; exact h) (q2 _ _ _ _ (fun c a w h => by cases h.1) (fun ⟨a, w, h⟩ => by cases h.1) ?_);exact Yb5 hT Z (K := K .normal) (N := N) (D := D) (fun env' A w' p q B z => ⟨rfl, l _ _ _ _ p q B z⟩) _ p1.drew (p2.trans j) i q1
 | seq x y E F =>
  intro m env K Q a w g j i l b;simp [evCode] at b;refine wp_seq (E g j i (fun e env' A w' p q B z => ?_) b);cases e with
  | normal => exact F q B z l p
  | _ => exact l _ _ _ _ p q B z
 | cond cc x y E F =>
  intro m env K Q a w g j i l b;simp [evCode] at b;split at b
  ·rename_i t hb;have hc := g.bool1 hb;refine wp_cond (t := t) (by rw [Y6]; exact hc) ?_;cases t with
   | true => exact E g j i l b
   | false => exact F g j i l b
  ·simp at b
 | block id x U =>
  intro m env K Q a w g j i l b;simp [evCode] at b;refine wp_block (U g j i (fun e env' A w' p q B z => ?_) b);cases e with
  | exit I =>
   simp only at p;show if I = id then Q .normal A w' else Q (.exit I) A w'
   split at p
   ·grind
   ·grind
  | _ => exact l _ _ _ _ p q B z
 | loop x U =>
  intro m env K Q a w g j i l b;simp [evCode] at b;split at b
  ·simp at b
  ·rename_i keep O;refine wp_loop_rounds fuel ?_;have X : ∀ (n : Nat) {env : Env} {a : Act} {w : World}, RE c env a.tmps w -> env.length = N -> a.defers = D ->
     iter (fun Y env => evCode T sig caps orc L fuel ann m x env fun e env' => match e with | .normal => Y (dropAll keep (List.range env'.length) env') | e => K e env') n env = some r -> Code.rounds P x Q n a w := by
    intro n
    induction n with
    | zero => intro env a w _ _ _ b; simp [iter] at b
    | succ n V =>
     intro env a w g j i b;simp [iter] at b;rw [rounds_succ];refine U g j i (fun e env' A w' p q B z => ?_) b;cases e with
     | normal =>
      obtain ⟨W, k2⟩ := Y2i (keep := keep) (List.range env'.length) q (fun d M => X1v.1 M);exact V W gr z p
     | _ => exact l _ _ _ _ p q B z
   obtain ⟨W, k2⟩ := Y2i (keep := keep) (List.range env.length) g (fun d M => X1v.1 M);exact X fuel W gr i b
 | exit id =>
  intro m env K Q a w g j i l b;simp [evCode] at b;exact wp_exit (l _ _ _ _ b g j i)
 | ret =>
  intro m env K Q a w g j i l b;simp [evCode] at b;exact wp_ret (l _ _ _ _ b g j i)
 | _ => intro m env K Q a w g j i l b; simp [evCode] at b
end
def ArgOk (S : Nat -> Prop) (w : World) (c : Cx) (av : AV) (v : Value) (cells : List Value) : Prop :=
 ∀ (s : St) (r : Nat), s.w = w -> (∀ b, S b -> RoS c s b) -> (∀ l, s.bs r l = []) -> s.cs r = cells -> AVRel c s r av v /\ av.refs = [] /\ av.ptrs = []
theorem Ya5 {rv : RV} (h : RVRel S w rv v) (y : paramAV rv = some av) : ∃ cells, ArgOk S w c av v cells := by
 cases rv with
 | val t x =>
  obtain ⟨A, rfl, g⟩ := h;simp [paramAV] at y;subst y;obtain ⟨L, F⟩ := Y1x t (fun _ => .at_ .ro) 0 g;refine ⟨A, fun s r z p i B => ⟨?_, Y32 t x 0, rfl⟩⟩;refine ⟨?_, by rw [B]; exact L, fun l _ => i _, fun l lf u C M => ?_⟩
  ·rw [B];exact (Y2b (w := s.w) (fun N => by rw [g.len]; exact Y3k N)).bare (i 0)
  ·rw [B] at M;have q := Y2f t x 0 lf (Yc C);have := (F l lf u (by rw [<- Y2]; exact C) M).1;refine LeafRel.of_held (by rw [q]; rfl) (i _) ?_;obtain ⟨U, V, m⟩ := lf;simp only at q;subst q;show Rep (RoS c s) s.w _ _ _ _ _;rw [z];exact Rep.move (fun b i _ => ⟨p b i, rfl⟩) sm this
 | ptr t x =>
  obtain ⟨a, A, rfl, G, O, j, g⟩ := h;simp [paramAV] at y;subst y;obtain ⟨L, F⟩ := Y1x t (fun _ => .at_ .ro) 0 g;refine ⟨[], fun s r z p i B => ⟨?_, by simp only [AV.refs, Xh]; exact Y32 t x 0, rfl⟩⟩;refine ⟨i, a, rfl, fun l lf C => ?_, p _ G, gr⟩;have q := Y2f t x 0 lf (Yc C);refine ⟨by rw [q]; rfl, ?_⟩;have D := C;rw [Y2] at D;have E : l < A.length :=gr;refine ⟨A[l], by rw [z]; exact j l _ (X1 E), ?_⟩;have := (F l lf A[l] D (X1 E)).1;obtain ⟨U, V, m⟩ := lf;subst q;show Rep (RoS c s) s.w _ _ _ _ _;rw [z];exact Rep.move (fun b i _ => ⟨p b i, rfl⟩) sm this
 | clo f caps =>
  obtain ⟨us, rfl, I⟩ := h;simp [paramAV] at y;subst y;exact ⟨[], fun s r z p i B => ⟨⟨i, us, rfl, I.move (fun b i _ => ⟨p b i, by rw [z]⟩)⟩, rfl, rfl⟩⟩
 | fptr f caps => exact h.elim
theorem Y5u {S : Nat -> Prop} {w : World} {c : Cx} : ∀ {args : List RV} {vals : List Value} {as : List AV}, RVRels S w args vals -> paramAVs args = some as -> vals.length = as.length /\ ∃ cs : Nat -> List Value, ∀ r, r < as.length -> ArgOk S w c (get as r) (vals.getD r undef) (cs r)
 | [], vals, as, h, hp => by
  simp [paramAVs] at hp;subst hp;exact ⟨by rw [show vals = [] from h]; rfl, fun _ => [], fun r g => by simp at g⟩
 | rv :: args, vals, as, ⟨v, vals', e, h1, h2⟩, hp => by
  simp [paramAVs] at hp;cases i : paramAV rv with
  | none => grind
  | some av =>
   cases b : paramAVs args with
   | none => grind
   | some j =>
    rw [i, b] at hp;simp at hp;subst hp; subst e;obtain ⟨l, cs, k2⟩ := Y5u (c := c) h2 b;obtain ⟨cells, m⟩ := Ya5 (c := c) h1 i;refine ⟨by simp [l], fun r => match r with | 0 => cells | r + 1 => cs r, fun r g => ?_⟩;cases r with
    | zero => exact m
    | succ r => exact k2 r (by simpa using g)
theorem Y2j : ∀ (as bs : Env) (r : Nat), r < as.length -> get (as ++ bs) r = get as r
 | [], bs, r, h => by simp at h
 | a :: as, bs, 0, _ => rfl
 | a :: as, bs, r + 1, h => Y2j as bs r (by simpa using h)
theorem Y2k : ∀ (as bs : Env) (r : Nat), as.length <= r -> get (as ++ bs) r = get bs (r - as.length)
 | [], bs, r, h => sm
 | a :: as, bs, 0, h => by simp at h
 | a :: as, bs, r + 1, h => by
  simp [get];exact Y2k as bs r (by simpa using h)
theorem Y6e : ∀ (n r : Nat) (v : AV), r < n -> get (List.replicate n v) r = v
 | 0, r, v, h => om
 | n + 1, 0, v, _ => rfl
 | n + 1, r + 1, v, h => Y6e n r v om
def cx0 (S : Nat -> Prop) (w : World) : Cx := ⟨S, w.heap.size, w, fun _ => default, fun _ => False, default, fun _ => default⟩
theorem Yep {args : List RV} {g : List Value} (h : RVRels S w args g) (B : paramAVs args = some as) (G : as.length <= n) :
  RE (cx0 S w) (as ++ List.replicate (n - as.length) .skip) (g.toArray ++ Array.replicate (n - g.toArray.size) undef) w := by
 obtain ⟨E, cs, k2⟩ := Y5u (c := (cx0 S w)) h B;have D : g.toArray.size = as.length := by simpa using E
 let env : Env := as ++ List.replicate (n - as.length) .skip
 let tmps : Array Value := g.toArray ++ Array.replicate (n - g.toArray.size) undef
 have z : env.length = n :=gr;have A : tmps.size = n :=gr
 let bs : Nat -> Nat -> List Nat := fun _ _ => []
 let s : St := SS env noP tmps noV w cs bs
 have p : ∀ b, S b -> RoS (cx0 S w) s b := fun b m => ⟨fun _ _ => by simp [s, bs], .inl m⟩;have i : ∀ r, r < as.length -> ovl env noP r = get as r /\ ovlT tmps noV r = g.getD r undef := fun r C => by
  refine ⟨by rw [Y7 om]; exact Y2j _ _ _ C, ?_⟩;show (if r < tmps.size then tmps.getD r undef else _) = _;rw [X4 om];have : r < g.length :=om;simp [tmps, this, X11, X32, Xk]
 have j : ∀ r, AVRel (cx0 S w) s r (ovl env noP r) (ovlT tmps noV r) /\ (ovl env noP r).refs = [] /\ (ovl env noP r).ptrs = [] := fun r => by
  by_cases y : r < as.length
  ·rw [(i r y).1, (i r y).2];exact k2 r y s r rfl p (fun _ => rfl) rfl
  ·by_cases F : r < n
   ·have q : ovl env noP r = .skip := by
     rw [Y7 om];show get (as ++ _) r = _;rw [Y2k _ _ _ om, Y6e _ _ _ om]
    have e2 : ovlT tmps noV r = undef := by
     show (if r < tmps.size then tmps.getD r undef else _) = _;rw [X4 om];simp only [tmps, X11];rw [X2j om, X29];split <;> rfl
    rw [q, e2];exact ⟨⟨rfl, fun _ => rfl⟩, rfl, rfl⟩
   ·have q : ovl env noP r = .undef := by rw [Yg om]; rfl
    rw [q];exact ⟨fun _ => rfl, rfl, rfl⟩
 refine ⟨noV, by rw [z, A], cs, bs, ⟨X1f _ _, Xd _, fun r l b m => by simp [bs] at m, fun r l r' I b m => by simp [bs] at m, fun r l => X13, fun r => (j r).1, fun b m => m.elim⟩, fun r => ?_⟩;rw [(j r).2.1, (j r).2.2];exact ⟨sm, sm⟩
def cxM (S : Nat -> Prop) (base : Nat) (w : World) (h : List Value) (g : List Nat) : Cx := ⟨S, base, w, fun i => h.getD i undef, fun b => b < w.heap.size /\ b ∉ g, default, fun _ => default⟩
def ownB (bs : Nat -> Nat -> List Nat) (t : Ty) (d : Nat) : List Nat := (List.range' 0 t.sz).flatMap fun l => bs d (l + 1)
def outB (cs : Nat -> List Value) (bs : Nat -> Nat -> List Nat) (d l : Nat) : List Nat := (bs d l).filter fun b => decide (((cs d).getD (l - 1) undef).ownBlock = some b)
def resB1 (cs : Nat -> List Value) (bs : Nat -> Nat -> List Nat) (t : Ty) (fr : Lvl) (d : Nat) : List Nat := match fr with
 | .dp => ownB bs t d
 | .sh => ownB (outB cs bs) t d
 | _ => []
theorem Rep.outer {S S' : Nat -> Prop} {x : List t.D} {B : List Nat} (h : Rep S w (.slice e t) lv [u] x B) (y : lv = .dp \/ lv = .sh) (z : B.Nodup) (E : ∀ b, S b -> S' b) (F : ∀ b ∈ B, b ∉ (B.filter fun b => decide (u.ownBlock = some b)) -> S' b) :
  Rep S' w (.slice e t) .sh [u] x (B.filter fun b => decide (u.ownBlock = some b)) := by
 obtain ⟨v, xs, C, m, D, rfl, q, j⟩ := h;obtain rfl : u = v := by simpa using D
 obtain ⟨rfl, i⟩ : C = u.ownBlock.toList /\ w.ownsRow 0 e t.sz u x.length xs := by rcases y with rfl | rfl <;> exact j
 have I : ((u.ownBlock.toList ++ m).filter fun b => decide (u.ownBlock = some b)) = u.ownBlock.toList := by
  rw [List.filter_append];have M : (u.ownBlock.toList.filter fun b => decide (u.ownBlock = some b)) = u.ownBlock.toList := List.filter_eq_self.2 (fun b p => decide_eq_true (Yk.1 p));have k2 : (m.filter fun b => decide (u.ownBlock = some b)) = [] := List.filter_eq_nil_iff.2 (fun b p G => (X12.1 z).2.2 b (Yk.2 (of_decide_eq_true G)) b p rfl);rw [M, k2, Xh]
 rw [I] at F ⊢;refine ⟨u, xs, _, [], rfl, (Xh _).symm, ?_, rfl, i⟩;refine El.bareW (bs := m) (fun c x b A L => ?_) (fun k A => A) q;refine Rep.move (S := fun l => S l \/ l ∈ b) (fun l g _ => ⟨?_, rfl⟩) sm (Rep.ro L);rcases g with g | g
 ·exact E _ g
 ·grind
def resB (cs : Nat -> List Value) (bs : Nat -> Nat -> List Nat) : List (Ty × Lvl) -> List ResultVar -> List Nat
 | p :: ps, v :: vs => resB1 cs bs p.1 p.2 (resTmp v) ++ resB cs bs ps vs
 | _, _ => []
section
variable {P : Program} {c : Cx} {T : Tab}
theorem Ya6 {d b : Nat} (h : b ∈ ownB bs t d) : ∃ l, b ∈ bs d (l + 1) := by
 simp [ownB] at h;obtain ⟨l, _, h⟩ := h;exact ⟨l, h⟩
theorem Y8p {fr : Lvl} {d b : Nat} (h : b ∈ resB1 cs bs t fr d) : ∃ l, b ∈ bs d (l + 1) := by
 cases fr with
 | dp => exact Ya6 h
 | sh =>
  obtain ⟨l, g⟩ := Ya6 h;exact ⟨l, (X1s.1 g).1⟩
 | ro => simp [resB1] at h
 | pn _ => simp [resB1] at h
theorem Y1q : ∀ {rs : List (Ty × Lvl)} {vars : List ResultVar} {b : Nat}, b ∈ resB cs bs rs vars -> ∃ (i : Nat) (p : Ty × Lvl) (v : ResultVar) (l : Nat), rs[i]? = some p /\ vars[i]? = some v /\ b ∈ resB1 cs bs p.1 p.2 (resTmp v) /\ b ∈ bs (resTmp v) (l + 1)
 | [], vars, b, h => by simp [resB] at h
 | p :: ps, [], b, h => by simp [resB] at h
 | p :: ps, v :: vs, b, h => by
  simp [resB] at h;rcases h with h | h
  ·obtain ⟨l, y⟩ := Y8p h;exact ⟨0, p, v, l, rfl, rfl, h, y⟩
  ·obtain ⟨i, z, A, l, g, j, m, q⟩ := Y1q h;exact ⟨i + 1, z, A, l, g, j, m, q⟩
theorem Ya7 (hr : Rel c (SS env noP tmps vs w cs bs)) {fr : Lvl} {x : t.D} (hk : get env d = .con k ls)
  (N : (ls.all fun l => l.m.settled && fr.asks l) = true) (j : asm t ls = some (x, [])) :
  ∀ S' : Nat -> Prop, (∀ b, RoS c (SS env noP tmps vs w cs bs) b -> S' b) -> (∀ l, ∀ b ∈ bs d (l + 1), b ∉ resB1 cs bs t fr d -> S' b) -> Rep S' w t fr.res (cs d) x (resB1 cs bs t fr d) := by
 have hd : d < env.length := Yx hk;have O := hr.av d;have e1 : (SS env noP tmps vs w cs bs).env d = .con k ls := by show ovl env noP d = _; rw [Y7 hd, hk]
 rw [e1] at O;obtain ⟨_, g2, g3, g4⟩ := O;have h : ∀ l lf u, ls[l]? = some lf -> (cs d)[l]? = some u -> ∃ lv, lf.m = .at_ lv /\ Rep (RoS c (SS env noP tmps vs w cs bs)) w lf.t lv [u] lf.x (bs d (l + 1)) /\ (match lf.t with | .slice _ _ => (match fr with | .dp => lv = .dp | .sh => lv = .dp \/ lv = .sh | _ => True) | _ => True) := by
  intro l lf u y C;have h6 := g4 l lf u (by rw [Y2]; exact y) C;have M := Xa.1 N lf (X8 y);simp at M;obtain ⟨M, h8⟩ := M;obtain ⟨t', x', m⟩ := lf;cases m with
  | at_ lv =>
   refine ⟨lv, rfl, h6.rep, ?_⟩;cases t' with
   | slice e τ =>
    cases fr with
    | dp => simpa [Lvl.asks] using h8
    | sh => simpa [Lvl.asks] using h8
    | _ => trivial
   | _ => trivial
  | bor _ _ _ => simp [Mode.settled] at M
  | dead => simp [Mode.settled] at M
 intro S' h1 q;have hdp : fr = .dp -> Rep S' w t .dp (cs d) x (ownB bs t d) := by
  intro D;subst D;obtain ⟨G, I, i, k2, X, Y, _⟩ := Y33 (S := S') (w := w) (L := .dp) (F := fun l => bs d (l + 1)) t (k := 0) j g2 (fun l lf u y C => by
   obtain ⟨lv, h1, q, A⟩ := h l lf u y C;rw [X14];obtain ⟨us, e0, g⟩ := Y3m t j;rw [Xh] at e0;have g := g lf gr;obtain ⟨t', x', m⟩ := lf;simp only at h1 q A;cases t' with
   | slice e τ => simp only at A; subst A; exact Rep.dpS q
   | int _ => exact q
   | bool => exact q
   | str => exact q
   | unit => simp [Ty.isAgg] at g
   | pair _ _ => simp [Ty.isAgg] at g)
  have : I = [] := Xo.1 X.symm;subst this;rw [Xh] at i;have i : cs d = G := i;rw [i];exact Y
 have hsh : fr = .sh -> Rep S' w t .sh (cs d) x (ownB (outB cs bs) t d) := by
  intro D;subst D;obtain ⟨G, I, i, k2, X, Y, _⟩ := Y33 (S := S') (w := w) (L := .sh) (F := fun l => outB cs bs d (l + 1)) t (k := 0) j g2 (fun l lf u y C => by
   obtain ⟨lv, _, p, A⟩ := h l lf u y C;rw [X14];have hob : outB cs bs d (l + 1) = (bs d (l + 1)).filter fun b => decide (u.ownBlock = some b) := by
    unfold outB;rw [Nat.add_sub_cancel, Xk, C]; rfl
   obtain ⟨us, e0, g⟩ := Y3m t j;rw [Xh] at e0;have g := g lf (by rw [<- e0]; exact X8 y);have z : ∀ b ∈ bs d (l + 1), b ∉ outB cs bs d (l + 1) -> S' b := by
    intro b E z;refine q l b E (fun U => ?_);simp [resB1, ownB] at U;obtain ⟨l', _, U⟩ := U;have := (hr.disj _ _ _ _ _ E (X1s.1 U).1).2;obtain rfl : l = l' :=om;exact z U
   rw [hob] at z ⊢;obtain ⟨t', x', m⟩ := lf;simp only at p A;cases t' with
   | slice e τ => exact Rep.outer p A (hr.nodup _ _) h1 z
   | int _ => obtain ⟨Z, q2⟩ := p; rw [q2]; exact ⟨Z, rfl⟩
   | bool => obtain ⟨Z, q2⟩ := p; rw [q2]; exact ⟨Z, rfl⟩
   | str => obtain ⟨Z, q2⟩ := p; rw [q2]; exact ⟨Z, rfl⟩
   | unit => simp [Ty.isAgg] at g
   | pair _ _ => simp [Ty.isAgg] at g)
  have : I = [] := Xo.1 X.symm;subst this;rw [Xh] at i;have i : cs d = G := i;rw [i];exact Y
 have W : resB1 cs bs t fr d = [] -> fr.res = .ro -> Rep S' w t fr.res (cs d) x (resB1 cs bs t fr d) := by
  intro B V;rw [V, B];rw [B] at q;obtain ⟨G, I, i, X, Y, _⟩ := Y31 (S := S') (w := w) t j g2 (fun l lf u y C => by
   obtain ⟨lv, _, A, _⟩ := h l lf u y C;exact A.roS (fun b E _ => h1 b E) (fun b E => q l b E sm))
  have : I = [] := Xo.1 X.symm;subst this;rw [Xh] at i;have i : cs d = G := i;rw [i];exact Y
 cases fr with
 | dp => exact hdp rfl
 | sh => exact hsh rfl
 | ro => exact W rfl rfl
 | pn _ => exact W rfl rfl
def rvRun (tmps : Array Value) : ResultVar -> Sem Value := fun
  | ResultVar.tmp t => pure (tmps.getD t undef)
  | ResultVar.cell a t => do loadVar t (<- asAddr (tmps.getD a undef))
def RunsTo (P : Program) (tmps : Array Value) (w : World) (v : ResultVar) (u : Value) : Prop := Sem.run P (rvRun tmps v) w = Result.ok u w
theorem Yea (hT : TabOk P T) (m : env.length = tmps.size) (I : Rel c (SS env noP tmps vs w cs bs)) {fr : Lvl} {v : ResultVar} {x : t.D} (h : res1 T env t fr v = some x) :
  ∃ M, RunsTo P tmps w v (mkV t.isAgg M) /\ ∀ S' : Nat -> Prop, (∀ b, RoS c (SS env noP tmps vs w cs bs) b -> S' b) -> (∀ l, ∀ b ∈ bs (resTmp v) (l + 1), b ∉ resB1 cs bs t fr (resTmp v) -> S' b) -> Rep S' w t fr.res M x (resB1 cs bs t fr (resTmp v)) := by
 cases v with
 | cell d W =>
  simp only [res1] at h;split at h
  ·rename_i F;split at h
   ·rename_i e ls q;split at h
    ·rename_i g;split at h
     ·rename_i y p;simp at h;subst h;have k2 := Ya7 I q g p;refine ⟨cs d, ?_, k2⟩;have E : d < env.length := Yx q;have i := I.av d;have L : (SS env noP tmps vs w cs bs).env d = .con (.box e) ls := by show ovl env noP d = _; rw [Y7 E, q]
      have e2 : (SS env noP tmps vs w cs bs).tm d = tmps.getD d undef := X4 (m ▸ E);rw [L, e2] at i;obtain ⟨⟨B, C, O, _⟩, _⟩ := i;have U := (k2 (fun _ => True) (fun _ _ => trivial) (fun _ _ _ _ => trivial)).len;have A := Y52 (P := P) (w := w) hT F (x := ⟨B, 0, none⟩) U (fun j u V => by
       rw [Y1h];unfold World.cell?;rw [show w.heap[B]? = _ from O];simpa using V)
      simp only [RunsTo, rvRun];rw [C];simpa [Instr.loadAt, Instr.sureAddr, asAddr] using A
     ·simp at h
    ·simp at h
   ·simp at h
  ·simp at h
 | tmp d =>
  simp only [res1] at h;split at h
  ·rename_i k ls q;split at h
   ·rename_i N;simp only [X9, X1a] at N;obtain ⟨z, g⟩ := N;split at h
    ·rename_i y p;simp at h;subst h;have k2 := Ya7 I q g p;refine ⟨cs d, ?_, k2⟩;have E : d < env.length := Yx q;have i := I.av d;have L : (SS env noP tmps vs w cs bs).env d = .con k ls := by show ovl env noP d = _; rw [Y7 E, q]
     have e2 : (SS env noP tmps vs w cs bs).tm d = tmps.getD d undef := X4 (m ▸ E);rw [L, e2] at i;obtain ⟨C, _⟩ := i;have G : tmps.getD d undef = mkV t.isAgg (cs d) := by
      subst z;unfold Ty.kind at C;split at C
      ·rename_i D;rw [D];exact C.1
      ·rename_i D;have D : t.isAgg = false := by simpa using D
       rw [D];rw [show cs d = [tmps.getD d undef] from C.1];rfl
     simp only [RunsTo, rvRun];rw [G];simp
    ·simp at h
   ·simp at h
  ·simp at h
def RunsTos (P : Program) (tmps : Array Value) (w : World) : List ResultVar -> List Value -> Prop
 | [], us => us = []
 | v :: vs, us => ∃ u b, us = u :: b /\ RunsTo P tmps w v u /\ RunsTos P tmps w vs b
theorem Y47 (hT : TabOk P T) (j : env.length = tmps.size) (D : Rel c (SS env noP tmps vs w cs bs)) {base0 : Nat} (z : ∀ b, (c.S0 b \/ c.mine b) -> (S b \/ base0 <= b)) {B : List Nat} (I : ∀ b ∈ B, ∃ r l, b ∈ bs r l) :
  ∀ {rs : List (Ty × Lvl)} {vars : List ResultVar} {xs : List (Σ t : Ty, t.D)}, resN T env rs vars = some xs -> (∀ (i : Nat) (p : Ty × Lvl) (v : ResultVar), rs[i]? = some p -> vars[i]? = some v -> ∀ l, ∀ b ∈ bs (resTmp v) (l + 1), b ∉ resB1 cs bs p.1 p.2 (resTmp v) -> b ∉ B) ->
   ∃ g, ResRel S base0 w B rs xs g (resB cs bs rs vars) /\ RunsTos P tmps w vars (resVals rs g)
 | [], [], xs, h, hne => by
  simp [resN] at h;subst h;exact ⟨[], ⟨rfl, rfl, rfl⟩, rfl⟩
 | [], v :: vars, xs, h, hne => by simp [resN] at h
 | p :: ps, [], xs, h, hne => by simp [resN] at h
 | (t, fr) :: ps, v :: vars, xs, h, hne => by
  simp [resN] at h;cases E : res1 T env t fr v with
  | none => rw [E] at h; simp at h
  | some x =>
   cases q : resN T env ps vars with
   | none => grind
   | some F =>
    rw [E, q] at h;simp at h;subst h;obtain ⟨G, k2, M⟩ := Yea hT j D E;obtain ⟨g, N, O⟩ := Y47 hT j D z I q (fun i p v y L => hne (i + 1) p v y L);refine ⟨G :: g, ⟨x, F, G, g, _, _, rfl, rfl, rfl, ?_, N⟩, ⟨_, _, rfl, k2, O⟩⟩;refine M _ (fun b m => ⟨z b m.2, fun A => ?_⟩) (fun l b m C => ⟨z b (.inr (D.own _ _ _ m).1), hne 0 _ _ rfl rfl l b m C⟩);obtain ⟨r, l, y⟩ := I b A;exact m.1 r l y
theorem Y3n {α : Type} : ∀ {l : List α}, l.Nodup -> ∀ {i j : Nat} {x : α}, l[i]? = some x -> l[j]? = some x -> i = j
 | [], _, i, j, x, hi, _ => by simp at hi
 | a :: l, h, 0, 0, x, _, _ => rfl
 | a :: l, h, 0, j + 1, x, hi, hj => gr
 | a :: l, h, i + 1, 0, x, hi, hj => gr
 | a :: l, h, i + 1, j + 1, x, hi, hj => by rw [Y3n (X1q.1 h).2 hi hj]
theorem Y2u (g : Rel c s) : ∀ {rs : List (Ty × Lvl)} {vars : List ResultVar}, (vars.map resTmp).Nodup -> (resB s.cs s.bs rs vars).Nodup
 | [], vars, _ => by simp [resB]
 | p :: ps, [], _ => by simp [resB]
 | p :: ps, v :: vars, hn => by
  simp only [X1y, X1q] at hn;refine X12.2 ⟨?_, Y2u g hn.2, fun a y b z e => ?_⟩
  ·obtain ⟨t, fr⟩ := p;cases fr with
   | dp => exact Y2d (fun l => g.nodup _ _) (fun l m b j h => by have := (g.disj _ _ _ _ _ j h).2; omega) _ _
   | sh => exact Y2d (F := fun l => outB s.cs s.bs (resTmp v) (l + 1)) (fun l => (g.nodup _ _).filter _) (fun l m b j h => by have := (g.disj _ _ _ _ _ (X1s.1 j).1 (X1s.1 h).1).2; omega) _ _
   | ro => exact X13
   | pn _ => exact X13
  ·subst e;obtain ⟨l, A⟩ := Y8p y;obtain ⟨i, C, B, m, _, h, _, q⟩ := Y1q z;have := (g.disj _ _ _ _ _ A q).1;exact hn.1 (by rw [this]; exact X1b.2 ⟨B, X8 h, rfl⟩)
theorem Ya8 : ∀ {l : List ResultVar} {us : List Value}, RunsTos P tmps w l us -> Sem.run P (l.mapM (rvRun tmps)) w = Result.ok us w
 | [], us, h => by rw [show us = [] from h]; simp
 | v :: l, us, ⟨u, us', e, h1, h2⟩ => by
  have b := Ya8 h2;unfold RunsTo at h1;subst e;simp [X34, Sem.run_pure, X2v, b, h1]
def outVal : List Value -> Value
 | [v] => v
 | vs => .tuple vs.toArray
theorem Y3d {l : List Value} (h : RunsTos P tmps w fn.results.toList l) : Sem.run P (results fn tmps) w = Result.ok (outVal l) w := by
 have b := Ya8 h;unfold results;rw [Array.mapM_eq_mapM_toList];simp only [X34, Sem.run_map];erw [b];simp [X2v];cases l with
 | nil => simp [outVal]
 | cons x l => cases l with
  | nil => simp [outVal]
  | cons y l => simp [outVal]
theorem Yey {L : List (Σ t : Ty, t.D) -> Option R} {rr : R} (hT : TabOk P T) (hO : OrcOk P sig orc) (hm : P.follows .mixedOrders = true) {dr : Array Oper -> Env -> (Env -> Option R) -> Option R} (C : DrawHyp (R := R) T sig caps orc dr) (hf : P.funcs[f]? = some fn) (m : fn.body = some code) {args : List RV} {q : List (Σ t : Ty, t.D)}
  (E : sg.muts = false) (hU : ∀ xs, L xs = some rr -> xs = q) (h : evFn T sig caps orc dr fuel ann sg fn code args L = some rr) : FnSpec P f sg.results args q := by
 intro S w vals z;unfold evFn at h;split at h
 ·rename_i as A;unfold entryAVs at A;rw [E] at A;split at h
  ·rename_i hc;obtain ⟨Y, G, _⟩ := hc;have X := Yep z A Y;refine calls_of_wp hf m ?_;refine Y2t hT hO hm C (c := cx0 S w) (N := fn.ntmps) (D := []) (K := endK T sg fn (keepArgs sg args) L) code X (by simp; omega) rfl (fun e env' M w' y hr' hl' W => ?_) h;have fin : (match resN T (endPull sg fn env') sg.results fn.results.toList with | some xs => (match mutRes sg (keepArgs sg args) env' xs with | some ys => L ys | none => none) | none => none) = some rr -> (M.defers = [] /\ ∃ v, (results fn M.tmps).run P w' = .ok v w' /\ (fun (e : Ending) (w' : World) => ∃ j bs, e = .returned (resVal sg.results j) /\ Below w.heap.size w w' /\ ResRel S w.heap.size w' bs sg.results q j bs /\ bs.Nodup /\ ∀ b ∈ bs, w.heap.size <= b) (.returned v) w') := by
    intro y;have I : resN T (endPull sg fn env') sg.results fn.results.toList = some q := by
     cases hx : resN T (endPull sg fn env') sg.results fn.results.toList with
     | none => grind
     | some xs =>
      rw [hx] at y;have : mutRes sg (keepArgs sg args) env' xs = some xs := by unfold mutRes; rw [E]
      simp [this] at y;rw [hU xs y]
    obtain ⟨vs, hR⟩ := hr';have U : RP (cx0 S w) (endPull sg fn env') M.tmps w' noP vs := by
     unfold endPull;rw [E];exact hR.pullRes (fun _ => .inl rfl) sg.results fn.results.toList
    obtain ⟨F, cs, bs, g, hno⟩ := U
    let B := resB cs bs sg.results fn.results.toList
    have hB : ∀ b ∈ B, ∃ r l, b ∈ bs r l := fun b m => by
     obtain ⟨i, p, v, l, _, _, _, h4⟩ := Y1q m;exact ⟨_, _, h4⟩
    obtain ⟨j, m1, m2⟩ := Y47 hT (S := S) (base0 := w.heap.size) F g (fun b m => m.imp id (·.1)) hB I (fun i p v O h2 l b m Z V => by
     obtain ⟨i', p', v', l', k1, k2, k3, k4⟩ := Y1q V;have hdd := (g.disj _ _ _ _ _ m k4).1;have : i = i' := Y3n G (x := resTmp v) (by rw [X18, h2]; rfl) gr;subst this;rw [O] at k1;simp at k1;subst k1;rw [h2] at k2;obtain rfl := Xq k2;exact Z k3)
    refine ⟨W, _, Y3d m2, j, B, rfl, g.below, m1, Y2u g G, fun b m => ?_⟩
    ·obtain ⟨r, l, O⟩ := hB b m;exact (g.own _ _ _ O).1.1
   cases e with
   | ret => exact fin y
   | normal => exact fin y
   | _ => simp [endK] at y
  ·simp at h
 ·simp at h
end
theorem Yf6 {x : t.D} {m : List Nat} {base k : Nat} {args : List RV} {j : List Value} (A : Rep (fun _ => False) w t .dp [v] x m) (hnd : m.Nodup) (N : ∀ b ∈ m, base <= b) (C : base <= w.heap.size) (h : RVRels S w args j) (hS : ∀ b, S b -> b ∉ m) (hp : paramAVs args = some as) (hk : k <= as.length) (hn : as.length + 1 <= n) :
  RE (cxM S base w [v] m) (insN k (.con .val [⟨t, x, .at_ .dp⟩]) as ++ List.replicate (n - (as.length + 1)) .skip) ((insN k v j).toArray ++ Array.replicate (n - (insN k v j).toArray.size) undef) w := by
 obtain ⟨k1, G, k2⟩ := Y5u (c := cxM S base w [v] m) h hp
 let i : List AV := insN k (.con .val [⟨t, x, .at_ .dp⟩]) as
 let g : List Value := insN k v j
 have hasl : i.length = as.length + 1 := Y53 _ _ _;have hvsl : g.length = as.length + 1 := by rw [<- k1]; exact Y53 _ _ _
 let env : Env := i ++ List.replicate (n - (as.length + 1)) .skip
 let tmps : Array Value := g.toArray ++ Array.replicate (n - g.toArray.size) undef
 have O : env.length = n :=gr;have Y : tmps.size = n :=gr
 let cs : Nat -> List Value := fun r => if r < k then G r else if r = k then [v] else G (r - 1)
 let bs : Nat -> Nat -> List Nat := fun r l => if r = k /\ l = 1 then m else []
 let s : St := SS env noP tmps noV w cs bs
 have D : ∀ r l b, b ∈ bs r l -> r = k /\ l = 1 /\ b ∈ m := fun r l b q => gr;have y : ∀ b, S b -> RoS (cxM S base w [v] m) s b := fun b q => ⟨fun r l W => hS b q (D r l b W).2.2, .inl q⟩;have z : ∀ r, r < i.length -> ovl env noP r = get i r /\ ovlT tmps noV r = g.getD r undef := fun r hr => by
  refine ⟨by rw [Y7 om]; exact Y2j _ _ _ hr, ?_⟩;show (if r < tmps.size then tmps.getD r undef else _) = _;rw [X4 om];have : r < g.length :=om;simp [tmps, this, X11, X32, Xk]
 have M : ∀ r, AVRel (cxM S base w [v] m) s r (ovl env noP r) (ovlT tmps noV r) /\ (ovl env noP r).refs = [] /\ (ovl env noP r).ptrs = [] := fun r => by
  by_cases Z : r < i.length
  ·rw [(z r Z).1, (z r Z).2];rw [show get i r = _ from Y9o r hk, show g.getD r undef = _ from Y8i r om];have p : ∀ l, r ≠ k -> s.bs r l = [] := fun l X => X2 (fun hh => X hh.1);by_cases E : r < k
   ·rw [X4 E, X4 E];exact k2 r om s r rfl y (fun l => p l om) (X4 E)
   ·rw [X2 E, X2 E];by_cases F : r = k
    ·rw [X4 F, X4 F];subst F;have I : s.bs r = fun l => if l = 1 then m else [] :=gr
     have B : s.cs r = [v] :=gr;refine ⟨⟨⟨B, by rw [I]; rfl⟩, by rw [B]; rfl, fun l hl => ?_, fun l lf u hl hu => ?_⟩, by simp [AV.refs, Leaf.refs], by simp [AV.ptrs]⟩
     ·grind
     ·rw [B] at hu;have U : l = 0 :=gr;subst U;obtain rfl : lf = ⟨t, x, .at_ .dp⟩ := by simpa [leafAt] using hl.symm
      obtain rfl : u = v :=gr;refine LeafRel.of_rep trivial ?_;rw [I];exact Rep.dpS A
    ·rw [X2 F, X2 F];exact k2 (r - 1) om s r rfl y (fun l => p l F) gr
  ·have p : ∀ l, s.bs r l = [] := fun l => X2 (fun hh => om);by_cases E : r < n
   ·have L : ovl env noP r = .skip := by
     rw [Y7 om];show get (i ++ _) r = _;rw [Y2k _ _ _ om, Y6e _ _ _ om]
    have e2 : ovlT tmps noV r = undef := by
     show (if r < tmps.size then tmps.getD r undef else _) = _;rw [X4 om];simp only [tmps, X11];rw [X2j (by simp; omega), X29];split <;> rfl
    rw [L, e2];exact ⟨⟨rfl, p⟩, rfl, rfl⟩
   ·have L : ovl env noP r = .undef := by rw [Yg om]; rfl
    rw [L];exact ⟨p, rfl, rfl⟩
 have V : ∀ b ∈ m, b < w.heap.size := Rep.lt A;refine ⟨noV, by rw [O, Y], cs, bs, ⟨X1f _ _, C, fun r l b q => ?_, fun r l r' l' b q hb' => ?_, fun r l => ?_, fun r => (M r).1, fun b q => ⟨q.1, fun r l W => ?_, rfl⟩⟩, fun r => ?_⟩
 ·obtain ⟨_, _, h⟩ := D r l b q;exact ⟨⟨N b h, fun hf => hf.2 h⟩, V b h⟩
 ·grind
 ·grind
 ·obtain ⟨_, _, h⟩ := D r l b W;exact q.2 h
 ·grind
section
variable {P : Program} {T : Tab}
theorem Yeb {V : List (Σ t : Ty, t.D) -> Option R} {rr : R} (hT : TabOk P T) (hO : OrcOk P sig orc) (hm : P.follows .mixedOrders = true) {dr : Array Oper -> Env -> (Env -> Option R) -> Option R} (E : DrawHyp (R := R) T sig caps orc dr) (hf : P.funcs[f]? = some fn) (j : fn.body = some code) {k : Nat} {x : t.D} {rest : List RV} {y : List (Σ t : Ty, t.D)}
  (hU : ∀ xs, V xs = some rr -> xs = y) (h : evFnG T sig caps orc dr fuel ann k sg fn code (insN k (.val t x) rest) V = some rr) : FnSpecG P f sg.results k t x rest y := by
 intro S w v vals F base O M hb0 C A hS;unfold evFnG at h;split at h
 ·rename_i t' x' rest' hsp;obtain ⟨W, e2⟩ := Y6z (Y5k hsp).1;simp at W;obtain ⟨rfl, W⟩ := W;obtain rfl : x = x' := X2z W;subst e2;split at h
  ·rename_i as has;split at h
   ·rename_i hc;obtain ⟨⟨hle, hk, _⟩, L, I⟩ := hc;have hen := Yf6 O M hb0 C A hS has hk hle;refine calls_of_wp hf j ?_;refine Y2t hT hO hm E (c := cxM S base w [v] F) (N := fn.ntmps) (D := []) (K := endK T sg fn [] V) code hen (by simp [Y53]; omega) rfl (fun e env' X w' z hr' hl' hd' => ?_) (by simpa using h);have fin : (match resN T (endPull sg fn env') sg.results fn.results.toList with | some xs => (match mutRes sg [] env' xs with | some ys => V ys | none => none) | none => none) = some rr -> (X.defers = [] /\ ∃ v, (results fn X.tmps).run P w' = .ok v w' /\ (fun (e : Ending) (w' : World) => ∃ m bs, e = .returned (resVal sg.results m) /\ Below base w w' /\ (∀ b, b < w.heap.size -> b ∉ F -> w'.heap[b]? = w.heap[b]?) /\ ResRel (fun _ => True) 0 w' bs sg.results y m bs /\ bs.Nodup /\ ∀ b ∈ bs, b ∈ F \/ w.heap.size <= b) (.returned v) w') := by
     intro z;have U : resN T (endPull sg fn env') sg.results fn.results.toList = some y := by
      cases hx : resN T (endPull sg fn env') sg.results fn.results.toList with
      | none => grind
      | some xs =>
       rw [hx] at z;have : mutRes sg [] env' xs = some xs := by unfold mutRes; rw [I]
       simp [this] at z;rw [hU xs z]
     obtain ⟨vs, hR⟩ := hr';have Z : RP (cxM S base w [v] F) (endPull sg fn env') X.tmps w' noP vs := by
      unfold endPull;rw [I];exact hR.pullRes (fun _ => .inl rfl) sg.results fn.results.toList
     obtain ⟨G, cs, bs, g, hno⟩ := Z
     let B := resB cs bs sg.results fn.results.toList
     have hB : ∀ b ∈ B, ∃ r l, b ∈ bs r l := fun b j => by
      obtain ⟨i, p, v, l, _, _, _, h4⟩ := Y1q j;exact ⟨_, _, h4⟩
     obtain ⟨m, m1, m2⟩ := Y47 hT (S := fun _ => True) (base0 := 0) G g (fun b j => .inl trivial) hB U (fun i p v Y h2 l b j hnb hbB => by
      obtain ⟨i', p', v', l', k1, k2, k3, k4⟩ := Y1q hbB;have hdd := (g.disj _ _ _ _ _ j k4).1;have : i = i' := Y3n L (x := resTmp v) (by rw [X18, h2]; rfl) gr;subst this;rw [Y] at k1;simp at k1;subst k1;rw [h2] at k2;obtain rfl := Xq k2;exact hnb k3)
     refine ⟨hd', _, Y3d m2, m, B, rfl, g.below, fun b j q => ((g.froz b ⟨j, q⟩).2.2), m1, Y2u g L, fun b j => ?_⟩;obtain ⟨r, l, Y⟩ := hB b j;by_cases q : b ∈ F
     ·exact .inl q
     ·refine .inr (X15 fun hlt => ?_);exact (g.froz b ⟨hlt, q⟩).2.1 _ _ Y
    cases e with
    | ret => exact fin z
    | normal => exact fin z
    | _ => simp [endK] at z
   ·simp at h
  ·simp at h
 ·simp at h
end
def BoxSig.fix (b : BoxSig) : List Bool := b.lv.map Slot.isFx
theorem Ydb : ∀ (lv : List Slot) (l : Nat), nthB (lv.map Slot.isFx) l = true -> (slotAt lv l).isFx = true /\ l < lv.length
 | [], l, h => by simp [nthB] at h
 | s :: lv, 0, h => ⟨by simpa [nthB, slotAt] using h, sm⟩
 | s :: lv, l + 1, h => by
  obtain ⟨b, g⟩ := Ydb lv l (by simpa [nthB] using h);exact ⟨by simpa [slotAt] using b, by simp; omega⟩
theorem Ydc : ∀ (lv : List Slot) (l : Nat), (slotAt lv l).isFx = true -> nthB (lv.map Slot.isFx) l = true
 | [], l, h => by simp [slotAt, Slot.isFx] at h
 | s :: lv, 0, h => by simpa [nthB, slotAt] using h
 | s :: lv, l + 1, h => by simpa [nthB, slotAt] using Ydc lv l (by simpa [slotAt] using h)
def paramBox (b : BoxSig) : RV -> Option AV
 | .ptr t x => some (.con (.box ⟨b.id, true, b.fix⟩) (leaves t x b.md 0))
 | _ => none
def RCap.cap (k : Nat) : RCap -> Cap
 | .ro x => .ro x
 | .pin => .path k 0
 | .self => .self
def paramAVX (b : BoxSig) : RV -> Option AV
 | .fptr f caps => some (.fptr f (caps.map (RCap.cap b.k)))
 | v => paramAV v
def paramAVsY (b : BoxSig) : List RV -> Option (List AV)
 | [] => some []
 | v :: r => match paramAVX b v, paramAVsY b r with
  | some a, some as => some (a :: as)
  | _, _ => none
def paramAVsX (b : BoxSig) : Nat -> List RV -> Option (List AV)
 | _, [] => none
 | 0, v :: r => match paramBox b v, paramAVsY b r with
  | some a, some as => some (a :: as)
  | _, _ => none
 | k + 1, v :: r => match paramAVX b v, paramAVsX b k r with
  | some a, some as => some (a :: as)
  | _, _ => none
def boxEnd (b : BoxSig) : Nat -> List Leaf -> Bool
 | _, [] => true
 | n, l :: ls => (l.m.settled && (match l.t with
  | .slice _ _ => (match slotAt b.lv n with
   | .dp => l.m == .at_ .dp
   | .sh => l.m == .at_ .sh
   | _ => true)
  | _ => true)) && boxEnd b (n + 1) ls
def boxVal (env : Env) (b : BoxSig) (t : Ty) : Option t.D := match get env b.k with
 | .con (.box e) ls => if (e.id = b.id /\ e.pin = true /\ e.fix = b.fix) /\ boxEnd b 0 ls = true then match asm t ls with
   | some (y, []) => some y
   | _ => none
  else none
 | _ => none
section
variable {R : Type} (T : Tab) (sig : FuncId -> Option Sig) (caps : FuncId -> List Ty) (orc : Orc)
def endB (sg : Sig) (b : BoxSig) (fn : Func) (t : Ty) (K : List (Σ t : Ty, t.D) -> Option R) : Exit -> Env -> Option R := fun e env =>
 match e with
 | .ret | .normal => match resN T env sg.results fn.results.toList with
  | some xs => match boxVal env b t with
   | some y => K (⟨t, y⟩ :: xs)
   | none => none
  | none => none
 | _ => none
def evFnB (g : Array Oper -> Env -> (Env -> Option R) -> Option R) (fuel : Nat) (ann : Nat -> Option (List Nat)) (sg : Sig) (b : BoxSig) (fn : Func) (c : Code) (args : List RV) (K : List (Σ t : Ty, t.D) -> Option R) : Option R :=
 match paramAVsX b b.k args, nthL args b.k with
 | some as, some (.ptr t x) => if (as.length <= fn.ntmps /\ (b.k :: fn.results.toList.map resTmp).Nodup) /\ b.lv.length <= t.sz then evCode T sig caps orc g fuel ann 0 c (as ++ List.replicate (fn.ntmps - as.length) .skip) (endB T sg b fn t K) else none
 | _, _ => none
end
def cxB (S : Nat -> Prop) (base : Nat) (w : World) (B : Nat) (g : List Value) (b : List (List Nat)) : Cx :=
 ⟨S, base, w, fun _ => default, fun k => k < w.heap.size /\ k ∉ B :: b.flatten, .pointer (some ⟨B, 0, none⟩), fun l => g.getD l default⟩
def ArgOkX (k : Nat) (g : Value) (S : Nat -> Prop) (w : World) (c : Cx) (av : AV) (v : Value) (cells : List Value) : Prop :=
 ∀ (s : St) (r : Nat), s.w = w -> (∀ b, S b -> RoS c s b) -> (∀ l, s.bs r l = []) -> s.cs r = cells -> PtrRel s k 0 g -> AVRel c s r av v /\ av.refs = [] /\ ∀ q ∈ av.ptrs, q = k
theorem Ya9 {k : Nat} {i v : Value} (m : s.w = w) (j : ∀ b, S b -> RoS c s b) (l : PtrRel s k 0 i) : ∀ {g : List RCap} {us : List Value}, RCapRels S w i v g us -> CapRels c s v (g.map (RCap.cap k)) us
 | [], us, h => h
 | rc :: g, us, ⟨u, us', e, h1, h2⟩ => by
  refine ⟨u, us', e, ?_, Ya9 m j l h2⟩;cases rc with
  | ro x => exact PtrV.move (fun b p _ => ⟨j b p, by rw [m]⟩) h1
  | pin => rw [show u = i from h1]; exact l
  | self => exact h1
theorem Y6q {k : Nat} : ∀ {b : List RCap} {q : Nat}, q ∈ capRoots (b.map (RCap.cap k)) -> q = k
 | [], q, h => by simp [capRoots] at h
 | rc :: b, q, h => by
  simp [capRoots] at h;rcases h with h | h
  ·cases rc <;> simp [RCap.cap, Cap.roots] at h;exact h
  ·exact Y6q h
theorem Y8q {b : BoxSig} {A : Value} {rv : RV} (h : RVRelX S w A rv v) (p : paramAVX b rv = some av) : ∃ cells, ArgOkX b.k A S w c av v cells := by
 by_cases G : ∃ f caps, rv = .fptr f caps
 ·obtain ⟨f, caps, rfl⟩ := G;simp [paramAVX] at p;subst p;obtain ⟨B, us, rfl, C, D, E, F⟩ := h;refine ⟨[], fun s r g i j l y => ⟨⟨j, us, B, rfl, i _ C, by rw [g]; exact D, by rw [g]; exact E, Ya9 g i y F⟩, rfl, fun q I => Y6q I⟩⟩
 ·have z : RVRel S w rv v /\ paramAV rv = some av := by
   cases rv with
   | fptr f caps => grind
   | _ => exact ⟨h, p⟩
  obtain ⟨cells, m⟩ := Ya5 (c := c) z.1 z.2;exact ⟨cells, fun s r g i j l _ => ⟨(m s r g i j l).1, (m s r g i j l).2.1, by rw [(m s r g i j l).2.2]; simp⟩⟩
theorem Y7t {S : Nat -> Prop} {w : World} {c : Cx} {b : BoxSig} {l : Value} : ∀ {args : List RV} {vals : List Value} {as : List AV}, RVRelsY S w l args vals -> paramAVsY b args = some as -> vals.length = as.length /\ ∃ cs : Nat -> List Value, ∀ r, r < as.length -> ArgOkX b.k l S w c (get as r) (vals.getD r undef) (cs r)
 | [], vals, as, h, hp => by
  simp [paramAVsY] at hp;subst hp;exact ⟨by rw [show vals = [] from h]; rfl, fun _ => [], fun r i => by simp at i⟩
 | rv :: args, vals, as, ⟨v, vals', e, h1, h2⟩, hp => by
  simp [paramAVsY] at hp;cases j : paramAVX b rv with
  | none => grind
  | some av =>
   cases g : paramAVsY b args with
   | none => simp_all
   | some m =>
    rw [j, g] at hp;simp at hp;subst hp; subst e;obtain ⟨p, cs, k2⟩ := Y7t (c := c) h2 g;obtain ⟨cells, q⟩ := Y8q (c := c) h1 j;refine ⟨by simp [p], fun r => match r with | 0 => cells | r + 1 => cs r, fun r i => ?_⟩;cases r with
    | zero => exact q
    | succ r => exact k2 r (by simpa using i)
theorem Y7u {S : Nat -> Prop} {w : World} {c : Cx} {b : BoxSig} {q : Value} : ∀ {k : Nat} {args : List RV} {vals : List Value} {as : List AV}, RVRelsX S w q k args vals -> paramAVsX b k args = some as -> vals.length = as.length /\ k < as.length /\ (∃ t x, nthL args k = some (.ptr t x) /\ get as k = .con (.box ⟨b.id, true, b.fix⟩) (leaves t x b.md 0)) /\ ∃ cs : Nat -> List Value, ∀ r, r < as.length -> r ≠ k -> ArgOkX b.k q S w c (get as r) (vals.getD r undef) (cs r)
 | k, [], vals, as, h, hp => by cases k <;> simp [paramAVsX] at hp
 | 0, rv :: args, vals, as, ⟨v, vals', e, h2⟩, hp => by
  simp [paramAVsX] at hp;cases i : paramBox b rv with
  | none => simp_all
  | some av =>
   cases g : paramAVsY b args with
   | none => grind
   | some l =>
    rw [i, g] at hp;simp at hp;subst hp; subst e;obtain ⟨p, cs, k2⟩ := Y7t (c := c) h2 g;refine ⟨by simp [p], sm, ?_, fun r => match r with | 0 => [] | r + 1 => cs r, fun r m j => ?_⟩
    ·cases rv with
     | ptr t x =>
      simp [paramBox] at i;subst i;exact ⟨t, x, rfl, rfl⟩
     | val _ _ => simp [paramBox] at i
     | clo _ _ => simp [paramBox] at i
     | fptr _ _ => simp [paramBox] at i
    ·cases r with
     | zero => exact absurd rfl j
     | succ r => exact k2 r (by simpa using m)
 | k + 1, rv :: args, vals, as, ⟨v, vals', e, h1, h2⟩, hp => by
  simp [paramAVsX] at hp;cases i : paramAVX b rv with
  | none => rw [i] at hp; simp at hp
  | some av =>
   cases g : paramAVsX b k args with
   | none => rw [i, g] at hp; simp at hp
   | some l =>
    rw [i, g] at hp;simp at hp;subst hp; subst e;obtain ⟨p, y, z, cs, k2⟩ := Y7u (c := c) h2 g;obtain ⟨cells, A⟩ := Y8q (c := c) h1 i;refine ⟨by simp [p], by simpa using y, by simpa [nthL, get] using z, fun r => match r with | 0 => cells | r + 1 => cs r, fun r m j => ?_⟩;cases r with
    | zero => exact A
    | succ r => exact k2 r (by simpa using m) (fun e => j (by rw [e]))
theorem Yf7 {b : BoxSig} {x : t.D} {B : Nat} {p : List Value} {g : List (List Nat)} {base : Nat} {args : List RV} {i : List Value} (hvk : i[b.k]? = some (.pointer (some ⟨B, 0, none⟩))) (hBh : w.heap[B]? = some (.cells p.toArray b.id (0, 0)))
  (hL : LvsRel S w (fun _ => True) (leaves t x b.md 0) p g) (hnd : (B :: g.flatten).Nodup) (hb : ∀ k ∈ B :: g.flatten, base <= k) (U : base <= w.heap.size) (h : RVRelsX S w (.pointer (some ⟨B, 0, none⟩)) b.k args i) (hS : ∀ k, S k -> k ∉ B :: g.flatten) (hp : paramAVsX b b.k args = some as) (ht : nthL args b.k = some (.ptr t x)) (hlv : b.lv.length <= t.sz) (hn : as.length <= n) :
  RE (cxB S base w B p g) (as ++ List.replicate (n - as.length) .skip) (i.toArray ++ Array.replicate (n - i.toArray.size) undef) w := by
 obtain ⟨k1, k3, ⟨t', x', q1, q2⟩, cs0, k2⟩ := Y7u (c := cxB S base w B p g) h hp;rw [ht] at q1;simp at q1;obtain ⟨rfl, q1⟩ := q1;subst q1;obtain ⟨l1, l2, l3⟩ := hL;obtain ⟨Y, Z⟩ := X1q.1 hnd;obtain ⟨d1, d2⟩ := Y17 Z;have hsz : i.toArray.size = as.length := by simpa using k1
 let env : Env := as ++ List.replicate (n - as.length) .skip
 let tmps : Array Value := i.toArray ++ Array.replicate (n - i.toArray.size) undef
 have hel : env.length = n :=gr;have htl : tmps.size = n :=gr
 let cs : Nat -> List Value := fun r => if r = b.k then p else cs0 r
 let bs : Nat -> Nat -> List Nat := fun r l => if r = b.k then (match l with | 0 => [B] | l + 1 => g.getD l []) else []
 let s : St := SS env noP tmps noV w cs bs
 have C : ∀ r l k, k ∈ bs r l -> r = b.k /\ k ∈ B :: g.flatten /\ (k ∈ (match l with | 0 => [B] | l + 1 => g.getD l [])) := fun r l k j => by
  simp only [bs] at j;split at j
  ·rename_i G;refine ⟨G, ?_, j⟩;cases l with
   | zero => grind
   | succ l => exact X3 _ (Yj j)
  ·simp at j
 have M : ∀ l, bs b.k l = (match l with | 0 => [B] | l + 1 => g.getD l []) := fun l => X4 rfl;have D : ∀ r, r ≠ b.k -> ∀ l, bs r l = [] := fun r G l => X2 G;have L : ∀ k, S k -> RoS (cxB S base w B p g) s k := fun k j => ⟨fun r l N => hS k j (C r l k N).2.1, .inl j⟩;have z : ∀ r, r < as.length -> ovl env noP r = get as r /\ ovlT tmps noV r = i.getD r undef := fun r G => by
  refine ⟨by rw [Y7 om]; exact Y2j _ _ _ G, ?_⟩;show (if r < tmps.size then tmps.getD r undef else _) = _;rw [X4 om];have : r < i.length :=om;simp [tmps, this, X11, X32, Xk]
 have hpk : PtrRel s b.k 0 (.pointer (some ⟨B, 0, none⟩)) := by
  refine ⟨_, _, B, (z b.k k3).1.trans q2, (z b.k k3).2.trans ?_, rfl⟩;rw [Xk, hvk]; rfl
 have V : ∀ (l : Nat) (lf : Leaf) (u : Value), (leaves t x b.md 0)[l]? = some lf -> p[l]? = some u -> ∃ m, lf.m = .at_ m /\ (∀ h, m ≠ .pn h) /\ Rep S w lf.t m [u] lf.x (g.getD l []) := by
  intro l lf u A hu;obtain ⟨m, N, F⟩ := l3 l lf u trivial A hu;refine ⟨m, N, fun h' e => ?_, F⟩;subst e;rcases Y29 b.md t x 0 l lf A with ⟨_, y⟩ | ⟨_, y⟩
  ·grind
  ·rw [N] at y; unfold BoxSig.md at y; cases hq : slotAt b.lv (0 + l) <;> rw [hq] at y <;> cases y
 have hav : ∀ r, AVRel (cxB S base w B p g) s r (ovl env noP r) (ovlT tmps noV r) /\ (ovl env noP r).refs = [] /\ ∀ q ∈ (ovl env noP r).ptrs, q = b.k := fun r => by
  by_cases O : r < as.length
  ·rw [(z r O).1, (z r O).2];by_cases G : r = b.k
   ·subst G;rw [q2];have hv : i.getD b.k undef = .pointer (some ⟨B, 0, none⟩) :=gr;rw [hv];have I : s.cs b.k = p := X4 rfl;have hset : ∀ lf ∈ leaves t x b.md 0, lf.m.settled = true := by
     intro lf hlf;obtain ⟨l, A⟩ := Xx hlf;have E : l < p.length :=gr;obtain ⟨m, N, _⟩ := l3 l lf p[l] trivial A (X1 E);rw [N]; rfl
    have hr0 := Yd (k := .box ⟨b.id, true, b.fix⟩) hset;refine ⟨⟨⟨B, rfl, by rw [I]; exact hBh, M 0, fun _ => rfl, fun l A => ?_⟩, by rw [I]; exact l1, fun l A => ?_, fun l lf u A hu => ?_⟩, hr0.1, gr⟩
    ·rw [I];obtain ⟨_, y⟩ := Ydb b.lv l A;have E : l < p.length := by
      rw [<- l1];have := congrArg List.length (Y15 t x b.md 0);rw [X2p, Y22] at this;omega
     show p[l]? = some (p.getD l default);rw [Xk, X1 E]; rfl
    ·grind
    ·rw [Y2] at A;rw [I] at hu;obtain ⟨m, W, e2, e3⟩ := V l lf u A hu;obtain ⟨t1, x1, m1⟩ := lf;simp only at W e3;subst W;refine LeafRel.of_rep (by cases m <;> first | trivial | exact absurd rfl (e2 _)) ?_;have h9 : bs b.k (l + 1) = g.getD l [] := M (l + 1);have h8 : Rep (RoS (cxB S base w B p g) s) w t1 m [u] x1 (g.getD l []) := Rep.move (fun k j _ => ⟨L k j, rfl⟩) (fun _ _ => rfl) e3;rw [<- h9] at h8;exact h8
   ·exact k2 r O G s r rfl L (fun l => D r G l) (X2 G) hpk
  ·by_cases y : r < n
   ·have W : ovl env noP r = .skip := by
     rw [Y7 om];show get (as ++ _) r = _;rw [Y2k _ _ _ om, Y6e _ _ _ om]
    have e2 : ovlT tmps noV r = undef := by
     show (if r < tmps.size then tmps.getD r undef else _) = _;rw [X4 om];simp only [tmps, X11];rw [X2j om, X29];split <;> rfl
    rw [W, e2];exact ⟨⟨rfl, fun l => D r om l⟩, rfl, by simp [AV.ptrs]⟩
   ·have W : ovl env noP r = .undef := by rw [Yg om]; rfl
    rw [W];exact ⟨fun l => D r om l, rfl, by simp [AV.ptrs]⟩
 have E : ∀ k ∈ B :: g.flatten, k < w.heap.size := by
  intro k j;rcases Xr.1 j with rfl | j
  ·grind
  ·obtain ⟨bl, hbl, hkb⟩ := X38.1 j;obtain ⟨l, A⟩ := Xx hbl;have hll : l < g.length := (X5.1 A).1;obtain ⟨m, _, F⟩ := l3 l _ _ trivial (X1 (show l < (leaves t x b.md 0).length by omega)) (X1 (show l < p.length by omega));refine Rep.lt F k ?_;rw [Xk, A]; exact hkb
 refine ⟨noV, by rw [hel, htl], cs, bs, ⟨X1f _ _, U, fun r l k j => ?_, fun r l r' X k j hk' => ?_, fun r l => ?_, fun r => (hav r).1, fun k j => ⟨j.1, fun r l N => j.2 (C r l k N).2.1, rfl⟩⟩, fun r => ?_⟩
 ·obtain ⟨_, y, _⟩ := C r l k j;exact ⟨⟨hb k y, fun hf => hf.2 y⟩, E k y⟩
 ·obtain ⟨rfl, _, O⟩ := C r l k j;obtain ⟨rfl, _, y⟩ := C r' X k hk';refine ⟨rfl, ?_⟩;cases l with
  | zero => cases X with
   | zero => rfl
   | succ X =>
    obtain rfl : k = B := by simpa using O
    exact absurd (Yj y) Y
  | succ l => cases X with
   | zero =>
    obtain rfl : k = B := by simpa using y
    exact absurd (Yj O) Y
   | succ X => rw [d2 l X k O y]
 ·grind
 ·grind
theorem Y8r {b : BoxSig} : ∀ {ls : List Leaf} {n l : Nat} {lf : Leaf}, boxEnd b n ls = true -> ls[l]? = some lf -> lf.m.settled = true /\ (∀ e τ, lf.t = .slice e τ -> (slotAt b.lv (n + l) = .dp -> lf.m = .at_ .dp) /\ (slotAt b.lv (n + l) = .sh -> lf.m = .at_ .sh))
 | [], n, l, lf, _, hl => by simp at hl
 | a :: ls, n, 0, lf, h, hl => by
  obtain rfl : a = lf := by simpa using hl
  simp [boxEnd] at h;refine ⟨h.1.1, fun e τ i => ?_⟩;have := h.1.2;rw [i] at this;rw [X2i];cases g : slotAt b.lv n <;> rw [g] at this <;> simp_all
 | a :: ls, n, l + 1, lf, h, hl => by
  simp [boxEnd] at h;have := Y8r (n := n + 1) (l := l) h.2 (by simpa using hl)
  rwa [show n + 1 + l = n + (l + 1) by omega] at this
section
variable {P : Program} {T : Tab}
theorem Yec {KR : List (Σ t : Ty, t.D) -> Option R} {rr : R} (hT : TabOk P T) (hO : OrcOk P sig orc) (M : P.follows .mixedOrders = true) {dr : Array Oper -> Env -> (Env -> Option R) -> Option R} (hdraw : DrawHyp (R := R) T sig caps orc dr) (hf : P.funcs[f]? = some fn) (hb : fn.body = some code) {b : BoxSig} {x y : t.D} {args : List RV} {ys : List (Σ t : Ty, t.D)}
  (ht : nthL args b.k = some (.ptr t x)) (hU : ∀ xs, KR xs = some rr -> xs = ⟨t, y⟩ :: ys) (h : evFnB T sig caps orc dr fuel ann sg b fn code args KR = some rr) : FnSpecBox P f sg.results b t x args y ys := by
 intro S w vals B ch E base hvk hBh hL hnd hbb hbase hargs hS;unfold evFnB at h;split at h
 ·rename_i as t' x' hp ht';rw [ht] at ht';simp at ht';obtain ⟨rfl, _⟩ := ht';split at h
  ·rename_i hc;obtain ⟨⟨hle, hndr⟩, hlv⟩ := hc;have hen := Yf7 hvk hBh hL hnd hbb hbase hargs hS hp ht hlv (n := fn.ntmps) hle;refine calls_of_wp hf hb ?_;refine Y2t hT hO M hdraw (c := cxB S base w B ch E) (N := fn.ntmps) (D := []) (K := endB T sg b fn t KR) code hen (by simp; omega) rfl (fun e env' a' w' hK hr' hl' hd' => ?_) h;have fin : (match resN T env' sg.results fn.results.toList with | some xs => (match boxVal env' b t with | some y => KR (⟨t, y⟩ :: xs) | none => none) | none => none) = some rr -> (a'.defers = [] /\ ∃ v, (results fn a'.tmps).run P w' = .ok v w' /\ (fun (e : Ending) (w' : World) => ∃ ch' m chs bs, e = .returned (resVal sg.results chs) /\ Below base w w' /\ (∀ k, k < w.heap.size -> k ∉ B :: E.flatten -> w'.heap[k]? = w.heap[k]?) /\ w'.heap[B]? = some (.cells ch'.toArray b.id (0, 0)) /\ ch'.length = ch.length /\ (∀ l, (slotAt b.lv l).isFx = true -> ch'[l]? = ch[l]?) /\
     LvsRel (fun k => (S k \/ k ∈ E.flatten \/ w.heap.size <= k) /\ k ∉ B :: (m.flatten ++ bs)) w' b.free (leaves t y b.md 0) ch' m /\ (∀ l, (slotAt b.lv l).isFx = true -> m.getD l [] = []) /\ (B :: (m.flatten ++ bs)).Nodup /\ (∀ k ∈ m.flatten ++ bs, k ∈ E.flatten \/ w.heap.size <= k) /\
     ResRel (fun k => S k \/ k ∈ B :: E.flatten) w.heap.size w' (B :: (m.flatten ++ bs)) sg.results ys chs bs) (.returned v) w') := by
    intro hK;cases hx : resN T env' sg.results fn.results.toList with
    | none => grind
    | some xs =>
     cases hv : boxVal env' b t with
     | none => grind
     | some y' =>
      rw [hx, hv] at hK;have := hU _ hK;simp at this;obtain ⟨rfl, rfl⟩ := this;obtain ⟨vs, hlen, cs, bs, g, hno⟩ := hr'
      -- the variable
      unfold boxVal at hv;split at hv
      ·rename_i e1 ls hg;split at hv
       ·rename_i hc1;obtain ⟨⟨c1, c2, c3⟩, hend⟩ := hc1;split at hv
        ·rename_i y1 has;simp at hv;subst hv;have hkl : b.k < env'.length := Yx hg;have hav := g.av b.k;rw [show (SS env' noP a'.tmps vs w' cs bs).env b.k = .con (.box e1) ls by show ovl env' noP b.k = _; rw [Y7 hkl]; exact hg] at hav;obtain ⟨⟨O, g1, g2, g3, g4, g5⟩, h2, h3, h4⟩ := hav;have hBB : O = B := by
          have := g4 c2;rw [g1] at this;simpa [cxB] using this
         subst hBB;have g2 : w'.heap[O]? = some (.cells (cs b.k).toArray b.id (0, 0)) := c1 ▸ g2;have g3 : bs b.k 0 = [O] := g3;have h2 : ls.length = (cs b.k).length := h2;have G : O ∈ bs b.k 0 := by rw [g3]; simp
         obtain ⟨pre, e2, e3⟩ := Y6d b.md t 0 has;rw [Xh] at e2;subst e2;have hly : (leaves t y1 b.md 0).length = ls.length := by have := congrArg List.length e3; simpa using this.symm
         have hts : ∀ z : t.D, (leaves t z b.md 0).length = t.sz := fun z => by
          have := congrArg List.length (Y15 t z b.md 0)
          rwa [X2p, Y22] at this
         have hcl : (cs b.k).length = ch.length := by rw [<- h2, <- hly, hts, <- hL.1, hts]
         let F : Nat -> List Nat := fun l => match slotAt b.lv l with
          | .dp => bs b.k (l + 1)
          | .sh => bs b.k (l + 1)
          | _ => []
         have hF : ∀ l k, k ∈ F l -> k ∈ bs b.k (l + 1) := by
          intro l k j;simp [F] at j;split at j <;> first | exact j | simp at j
         let m : List (List Nat) := (List.range (cs b.k).length).map F
         let U : List Nat := resB cs bs sg.results fn.results.toList
         have L := X1q.1 hndr;have hbx : ∀ k ∈ U, ∃ q l, q ≠ b.k /\ k ∈ bs q (l + 1) := fun k j => by
          obtain ⟨i, p, v, l, _, A, _, C⟩ := Y1q j;exact ⟨_, l, fun e => L.1 (by rw [<- e]; exact X1b.2 ⟨v, X8 A, rfl⟩), C⟩
         have hbd : ∀ k ∈ m.flatten, ∃ l, k ∈ bs b.k (l + 1) := fun k j => by
          obtain ⟨l, _, A⟩ := Y4x.1 j;exact ⟨l, hF l k A⟩
         have hLin : ∀ k ∈ O :: (m.flatten ++ U), ∃ q l, k ∈ bs q l := fun k j => by
          rcases Xr.1 j with rfl | j
          ·exact ⟨_, _, G⟩
          ·rcases X6.1 j with j | j
           ·obtain ⟨l, A⟩ := hbd k j; exact ⟨_, _, A⟩
           ·obtain ⟨q, l, _, A⟩ := hbx k j; exact ⟨_, _, A⟩
         have I : ∀ k, (cxB S base w O ch E).mine k -> k ∈ O :: E.flatten \/ w.heap.size <= k := fun k j => by
          by_cases A : k < w.heap.size
          ·refine .inl (Xs fun C => j.2 ⟨A, C⟩)
          ·exact .inr (X15 A)
         have hRo : ∀ k, RoS (cxB S base w O ch E) (SS env' noP a'.tmps vs w' cs bs) k -> (S k \/ k ∈ E.flatten \/ w.heap.size <= k) /\ k ∉ O :: (m.flatten ++ U) := fun k j => by
          refine ⟨?_, fun M => by obtain ⟨q, l, A⟩ := hLin k M; exact j.1 q l A⟩;rcases j.2 with A | A
          ·exact .inl A
          ·rcases I k A with C | C
           ·rcases Xr.1 C with rfl | C
            ·exact absurd G (j.1 _ _)
            ·exact .inr (.inl C)
           ·simp_all
         obtain ⟨chs, m1, m2⟩ := Y47 hT (S := fun k => S k \/ k ∈ O :: E.flatten) (base0 := w.heap.size) (B := O :: (m.flatten ++ U)) hlen g (fun k j => by
          rcases j with j | j
          ·exact .inl (.inl j)
          ·rcases I k j with C | C
           ·exact .inl (.inr C)
           ·exact .inr C) hLin hx (fun i p v q1 q2 l k j hnk W => by
          have hvne : resTmp v ≠ b.k := fun e => L.1 (by rw [<- e]; exact X1b.2 ⟨v, X8 q2, rfl⟩);rcases Xr.1 W with rfl | W
          ·exact hvne (g.disj _ _ _ _ _ j G).1
          ·rcases X6.1 W with W | W
           ·obtain ⟨l', A⟩ := hbd k W;exact hvne (g.disj _ _ _ _ _ j A).1
           ·obtain ⟨i', p', v', l', k1, k2, k3, k4⟩ := Y1q W;have hdd := (g.disj _ _ _ _ _ j k4).1;have : i = i' := Y3n L.2 (x := resTmp v) (by rw [X18, q2]; rfl) (by simp_all);subst this;rw [q1] at k1;simp at k1;subst k1;rw [q2] at k2;obtain rfl := Xq k2;exact hnk k3)
         refine ⟨hd', _, Y3d m2, cs b.k, m, chs, U, rfl, g.below, fun k j hnk => (g.froz k ⟨j, hnk⟩).2.2, g2, hcl, fun l hl => ?_, ⟨by rw [hly]; exact h2, by simp [m], fun l lf u V hl hu => ?_⟩, fun l hl => ?_, ?_, fun k j => ?_, m1⟩
         ·have A : (cs b.k)[l]? = some (ch.getD l default) := g5 l (by rw [c3]; exact Ydc _ _ hl);have Y : l < ch.length := by rw [<- hcl]; exact (X5.1 A).1
          rw [A, Xk, X1 Y]; rfl
         ·have Y : l < ls.length := by rw [<- hly]; exact (X5.1 hl).1
          have hd : ls[l].dat = lf.dat := by
           have A := congrArg (fun z => z[l]?) e3;simp only [X18, hl, X1 Y, X1w, X0] at A;exact A
          have A := h4 l ls[l] u (by rw [Y2]; exact X1 Y) hu;obtain ⟨hset, hsl⟩ := Y8r hend (X1 Y);rw [X14] at hsl;rw [Y38, X4 (show l < (cs b.k).length by rw [<- h2]; exact Y)];have hmd := Y29 b.md t y1 0 l lf hl;rw [X14] at hmd;generalize ls[l] = lo at *;obtain ⟨t1, x1, m1⟩ := lo;obtain ⟨t2, x2, m2'⟩ := lf;simp [Leaf.dat] at hd;obtain ⟨rfl, hd⟩ := hd;have hd : x1 = x2 := X2z hd;subst hd;have hold : ∃ lv, m1 = .at_ lv /\ Rep (RoS (cxB S base w O ch E) (SS env' noP a'.tmps vs w' cs bs)) w' t1 lv [u] x1 (bs b.k (l + 1)) := by
           cases m1 with
           | at_ lv => exact ⟨lv, rfl, A.rep⟩
           | bor _ _ _ => simp [Mode.settled] at hset
           | dead => simp [Mode.settled] at hset
          obtain ⟨lv, rfl, X⟩ := hold;simp only at hmd hsl;rcases hmd with ⟨hff, hmm⟩ | ⟨⟨e0, τ, hs⟩, hmm⟩
          ·subst hmm;obtain ⟨z1, z2⟩ := Rep.flat (S' := fun k => (S k \/ k ∈ E.flatten \/ w.heap.size <= k) /\ k ∉ O :: (m.flatten ++ U)) (w' := w') (m' := .ro) hff X;refine ⟨.ro, rfl, ?_⟩;have hFn : F l = [] := by
            simp [F]; split <;> first | exact z1 | rfl
           rw [hFn]; exact z2
          ·obtain ⟨u1, u2⟩ := hsl e0 τ hs;have hmove : ∀ {lv' : Lvl}, Rep (RoS (cxB S base w O ch E) (SS env' noP a'.tmps vs w' cs bs)) w' t1 lv' [u] x1 (bs b.k (l + 1)) -> Rep (fun k => (S k \/ k ∈ E.flatten \/ w.heap.size <= k) /\ k ∉ O :: (m.flatten ++ U)) w' t1 lv' [u] x1 (bs b.k (l + 1)) := fun hr' => Rep.move (fun k j _ => ⟨hRo k j, rfl⟩) (fun _ _ => rfl) hr';subst hmm;unfold BoxSig.free at V;cases hq : slotAt b.lv l with
           | fx => rw [hq] at V; cases V
           | dp =>
            obtain rfl : lv = .dp := by simpa using u1 hq
            refine ⟨.dp, by unfold BoxSig.md; rw [hq]; rfl, ?_⟩;rw [show F l = bs b.k (l + 1) by simp [F, hq]];exact hmove X
           | sh =>
            obtain rfl : lv = .sh := by simpa using u2 hq
            refine ⟨.sh, by unfold BoxSig.md; rw [hq]; rfl, ?_⟩;rw [show F l = bs b.k (l + 1) by simp [F, hq]];exact hmove X
           | ro =>
            refine ⟨.ro, by unfold BoxSig.md; rw [hq]; rfl, ?_⟩;rw [show F l = [] by simp [F, hq]];refine Rep.roS X (fun k j _ => hRo k j) (fun k j => ⟨?_, fun M => ?_⟩)
            ·rcases I k (g.own _ _ _ j).1 with C | C
             ·rcases Xr.1 C with rfl | C
              ·have := (g.disj _ _ _ _ _ G j).2; omega
              ·exact .inr (.inl C)
             ·exact .inr (.inr C)
            ·rcases Xr.1 M with rfl | M
             ·have := (g.disj _ _ _ _ _ G j).2; omega
             ·rcases X6.1 M with M | M
              ·obtain ⟨l', _, Z⟩ := Y4x.1 M;have := (g.disj _ _ _ _ _ j (hF l' k Z)).2;obtain rfl : l = l' :=om;simp only [F, hq] at Z;simp at Z
              ·obtain ⟨q', l', Z, h8⟩ := hbx _ M;exact Z (g.disj _ _ _ _ _ h8 j).1
         ·rw [Y38];split
          ·simp [F];cases hs : slotAt b.lv l <;> rw [hs] at hl <;> first | rfl | cases hl
          ·rfl
         ·refine X1q.2 ⟨fun M => ?_, X12.2 ⟨Y46 (fun l => ?_) (fun l l' k A C => ?_) _, Y2u g L.2, fun k j k' hk' e => ?_⟩⟩
          ·rcases X6.1 M with M | M
           ·obtain ⟨l, A⟩ := hbd _ M;have := (g.disj _ _ _ _ _ G A).2; omega
           ·obtain ⟨q, l, A, C⟩ := hbx _ M;exact A (g.disj _ _ _ _ _ C G).1
          ·simp [F];split <;> first | exact g.nodup _ _ | exact X13
          ·have := (g.disj _ _ _ _ _ (hF l k A) (hF l' k C)).2; omega
          ·subst e;obtain ⟨l, A⟩ := hbd _ j;obtain ⟨q, l', C, Z⟩ := hbx _ hk';exact C (g.disj _ _ _ _ _ Z A).1
         ·obtain ⟨q, l, A⟩ := hLin k (X3 _ j);rcases I k (g.own _ _ _ A).1 with C | C
          ·rcases Xr.1 C with rfl | C
           ·exfalso;rcases X6.1 j with j | j
            ·obtain ⟨l', Z⟩ := hbd _ j;have := (g.disj _ _ _ _ _ G Z).2; omega
            ·obtain ⟨q', l', Z, h8⟩ := hbx _ j;exact Z (g.disj _ _ _ _ _ h8 G).1
           ·exact .inl C
          ·exact .inr C
        ·simp at hv
       ·simp at hv
      ·simp at hv
   cases e with
   | ret => exact fin hK
   | normal => exact fin hK
   | _ => simp [endB] at hK
  ·simp at h
 ·simp at h
end
section
variable {P : Program} {T : Tab}
theorem Yca (g : Rel c s) {r : Nat} {y : t.D} (h : newVal id t (s.env r) = some y) : ∃ B, s.tm r = .pointer (some ⟨B, 0, none⟩) /\ B ∈ s.bs r 0 /\ s.w.heap[B]? = some (.cells (s.cs r).toArray id (0, 0)) /\ Rep (RoS c s) s.w t .ro (s.cs r) y [] := by
 unfold newVal at h;split at h
 ·rename_i e ls N;split at h
  ·rename_i M;obtain ⟨m, z⟩ := M;split at h
   ·rename_i y' i;simp at h;subst h;have b := g.av r;rw [N] at b;obtain ⟨⟨B, D, E, F, _⟩, G, W, I⟩ := b;refine ⟨B, D, by rw [F]; simp, by rw [<- m]; exact E, ?_⟩;obtain ⟨V, A, q, C, e2, _⟩ := Y31 (S := RoS c s) (w := s.w) t i G (fun l lf u O U => by
     have L := I l lf u (by rw [Y2]; exact O) U;have p : lf.m = .at_ .ro :=gr;have := L.held (by rw [p]; rfl);obtain ⟨Y, Z, X⟩ := lf;simp only at p;subst p;exact this.2)
    have j : A = [] := Xo.1 (by rw [<- C]; rfl);subst j;rw [Xh] at q;rw [q]; exact e2
   ·simp at h
  ·simp at h
 ·simp at h
theorem Yed {X : List (Σ t : Ty, t.D) -> Option R} {rr : R} (hT : TabOk P T) (hO : OrcOk P sig orc) (hm : P.follows .mixedOrders = true) {dr : Array Oper -> Env -> (Env -> Option R) -> Option R} (U : DrawHyp (R := R) T sig caps orc dr) (hf : P.funcs[f]? = some fn) (C : fn.body = some code) {y : t.D} {ys : List (Σ t : Ty, t.D)} {args : List RV}
  (hU : ∀ xs, X xs = some rr -> xs = ⟨t, y⟩ :: ys) (h : evFnN T sig caps orc dr fuel ann id t rs fn code args X = some rr) : FnSpecNew P f id rs t args y ys := by
 intro S w vals M;unfold evFnN at h;split at h
 ·rename_i as has;split at h
  ·rename_i hc;obtain ⟨hle, hnd⟩ := hc;have hen := Yep M has hle;refine calls_of_wp hf C ?_;refine Y2t hT hO hm U (c := cx0 S w) (N := fn.ntmps) (D := []) (K := endN T id t rs fn X) code hen (by simp; omega) rfl (fun e m z w' A hr' hl' hd' => ?_) h;have fin : (match fn.results.toList with
     | .tmp d :: vs => match resN T (pullRes rs vs m) rs vs with
      | some xs => (match get (pullRes rs vs m) d with
       | .path r 0 => match newVal id t (get (pullRes rs vs m) r) with
        | some y => X (⟨t, y⟩ :: xs)
        | none => none
       | v => match newVal id t v with
        | some y => X (⟨t, y⟩ :: xs)
        | none => none)
      | none => none
     | _ => none) = some rr -> (z.defers = [] /\ ∃ v, (results fn z.tmps).run P w' = .ok v w' /\ (fun (e : Ending) (w' : World) => ∃ B W j bs, e = .returned (newRes B rs j) /\ Below w.heap.size w w' /\ w.heap.size <= B /\ w'.heap[B]? = some (.cells W.toArray id (0, 0)) /\ Rep (fun k => (S k \/ w.heap.size <= k) /\ k ∉ B :: bs) w' t .ro W y [] /\
  ResRel S w.heap.size w' (B :: bs) rs ys j bs /\ (B :: bs).Nodup /\ ∀ b ∈ bs, w.heap.size <= b) (.returned v) w') := by
    intro A;split at A
    ·rename_i d rvs L;split at A
     ·rename_i xs hxs;obtain ⟨vs, hR⟩ := hr';have hR2 : RP (cx0 S w) (pullRes rs rvs m) z.tmps w' noP vs := hR.pullRes (fun _ => .inl rfl) rs rvs;generalize pullRes rs rvs m = env' at *;obtain ⟨G, cs, bs, g, hno⟩ := hR2;have I : (rvs.map resTmp).Nodup := by
       rw [L] at hnd;exact (X1q.1 hnd).2
      let B := resB cs bs rs rvs
      have hB : ∀ b ∈ B, ∃ r l, b ∈ bs r (l + 1) := fun b C => by
       obtain ⟨i, p, v, l, _, _, h3, h4⟩ := Y1q C;exact ⟨_, _, h4⟩
      have key : ∀ (q : Nat), newVal id t (get env' q) = some y -> xs = ys -> q < env'.length -> z.tmps.getD d undef = z.tmps.getD q undef -> (z.defers = [] /\ ∃ v, (results fn z.tmps).run P w' = .ok v w' /\ (fun (e : Ending) (w' : World) => ∃ B W j bs, e = .returned (newRes B rs j) /\ Below w.heap.size w w' /\ w.heap.size <= B /\ w'.heap[B]? = some (.cells W.toArray id (0, 0)) /\ Rep (fun k => (S k \/ w.heap.size <= k) /\ k ∉ B :: bs) w' t .ro W y [] /\
  ResRel S w.heap.size w' (B :: bs) rs ys j bs /\ (B :: bs).Nodup /\ ∀ b ∈ bs, w.heap.size <= b) (.returned v) w') := by
       intro q V F hq htd;subst F;have e1 : (SS env' noP z.tmps vs w' cs bs).env q = get env' q := by show ovl env' noP q = _; rw [Y7 hq]
       obtain ⟨Bx, k1, k2, k3, k4⟩ := Yca g (r := q) (id := id) (t := t) (y := y) (by rw [e1]; exact V);have k1 : z.tmps.getD q undef = .pointer (some ⟨Bx, 0, none⟩) := by rw [<- k1]; exact (X4 om).symm
       have k2 : Bx ∈ bs q 0 := k2;have hBn : Bx ∉ B := fun hm => by
        obtain ⟨r, l, E⟩ := hB Bx hm;have := (g.disj _ _ _ _ _ k2 E).2;omega
       obtain ⟨j, m1, m2⟩ := Y47 hT (S := S) (base0 := w.heap.size) (B := Bx :: B) G g (fun b C => C.imp (fun h => h) (·.1)) (fun b C => by
        rcases Xr.1 C with rfl | C
        ·exact ⟨q, 0, k2⟩
        ·obtain ⟨r, l, E⟩ := hB b C; exact ⟨r, l + 1, E⟩) hxs (fun i p v E h2 l b C hnb O => by
        rcases Xr.1 O with rfl | O
        ·have := (g.disj _ _ _ _ _ C k2).2;omega
        obtain ⟨i', p', v', l', g1, g2, g3, g4⟩ := Y1q O;have hdd := (g.disj _ _ _ _ _ C g4).1;have : i = i' := Y3n I (x := resTmp v) (by rw [X18, h2]; rfl) (by rw [X18, g2, hdd]; rfl);subst this;rw [E] at g1;simp only [X0] at g1;subst g1;rw [h2] at g2;obtain rfl := Xq g2;exact hnb g3)
       have hmv : ∀ k, RoS (cx0 S w) (SS env' noP z.tmps vs w' cs bs) k -> k < w'.heap.size -> ((S k \/ w.heap.size <= k) /\ k ∉ Bx :: B) /\ w'.heap[k]? = w'.heap[k]? := fun k hk _ => by
        refine ⟨⟨hk.2.imp (fun h => h) (·.1), fun e => ?_⟩, rfl⟩;rcases Xr.1 e with rfl | e
        ·exact hk.1 _ _ k2
        ·obtain ⟨r, l, E⟩ := hB k e;exact hk.1 _ _ E
       refine ⟨hd', newRes Bx rs j, ?_, Bx, cs q, j, B, rfl, g.below, (g.own _ _ _ k2).1.1, k3, Rep.move hmv (fun _ _ => rfl) k4, m1, X1q.2 ⟨hBn, Y2u g I⟩, fun b C => ?_⟩
       ·have E := Y3d (P := P) (fn := fn) (tmps := z.tmps) (w := w') (l := .pointer (some ⟨Bx, 0, none⟩) :: resVals rs j) (by
         rw [L];refine ⟨_, _, rfl, ?_, m2⟩;simp only [RunsTo, rvRun];rw [htd, k1]; simp)
        have h2 : outVal (.pointer (some ⟨Bx, 0, none⟩) :: resVals rs j) = newRes Bx rs j := by
         cases rs with
         | nil => rfl
         | cons p ps =>
          obtain ⟨x, xs', W, chs', b, b', e1, rfl, _⟩ := m1;rfl
        rw [h2] at E;exact E
       ·obtain ⟨r, l, E⟩ := hB b C;exact (g.own _ _ _ E).1.1
      split at A
      ·rename_i r hg;split at A
       ·rename_i y' V;have := hU _ A;simp only [X2q, Sigma.mk.injEq, heq_eq_eq, true_and] at this;obtain ⟨rfl, F⟩ := this;have Z : d < env'.length := by
         apply Xs;intro h;rw [Y11 env' d (X15 h)] at hg;cases hg
        have Y := g.av d;rw [show (SS env' noP z.tmps vs w' cs bs).env d = .path r 0 by show ovl env' noP d = _; rw [Y7 Z]; exact hg] at Y;obtain ⟨_, e', ls', B', p1, p2, p3⟩ := Y;have hq : r < env'.length := by
         have := (hno d).2 r (by rw [Y7 Z, hg]; simp [AV.ptrs]);exact this
        refine key r V F hq ?_;have p2 : z.tmps.getD r undef = .pointer (some ⟨B', 0, none⟩) := (X4 (show r < z.tmps.size by omega)).symm.trans p2;have p3 : z.tmps.getD d undef = .pointer (some ⟨B', 0, none⟩) := (X4 (show d < z.tmps.size from G ▸ Z)).symm.trans p3;rw [p2, p3]
       ·simp at A
      ·rename_i hne;split at A
       ·rename_i y' V;have := hU _ A;simp only [X2q, Sigma.mk.injEq, heq_eq_eq, true_and] at this;obtain ⟨rfl, F⟩ := this;have Z : d < env'.length := by
         apply Xs;intro h;rw [Y11 env' d (X15 h)] at V;simp [newVal] at V
        exact key d V F Z rfl
       ·simp at A
     ·simp at A
    ·simp at A
   cases e with
   | ret => exact fin A
   | normal => exact fin A
   | _ => simp [endN] at A
  ·simp at h
 ·simp at h
end
abbrev Foot1 := Option (Nat × List Nat)
abbrev Foot := Option (List Nat × List Nat)
def Dis : Foot -> Foot -> Prop
 | some (W, R), some (W', R') => (∀ w ∈ W, w ∉ W' /\ w ∉ R') /\ (∀ w ∈ W', w ∉ R)
 | _, _ => False
def puts : Env -> List Nat -> List AV -> Env
 | env, w :: W, v :: vs => puts (put env w v) W vs
 | env, _, _ => env
theorem Yaa : ∀ (env : Env) {a b : Nat} (u v : AV), a ≠ b -> put (put env a u) b v = put (put env b v) a u
 | [], a, b, u, v, h => by cases a <;> cases b <;> rfl
 | x :: env, 0, 0, u, v, h => absurd rfl h
 | x :: env, 0, b + 1, u, v, h => rfl
 | x :: env, a + 1, 0, u, v, h => rfl
 | x :: env, a + 1, b + 1, u, v, h => by
  show x :: put (put env a u) b v = x :: put (put env b v) a u;rw [Yaa env u v (fun e => h (by rw [e]))]
theorem Y25 : ∀ (W : List Nat) (vs : List AV) (env : Env), (puts env W vs).length = env.length
 | [], _, _ => by simp [puts]
 | w :: W, [], _ => rfl
 | w :: W, v :: vs, env => by simp [puts]; rw [Y25 W vs, Y5]
theorem Y10 {r : Nat} : ∀ {W : List Nat} {vs : List AV} {env : Env}, r ∉ W -> get (puts env W vs) r = get env r
 | [], vs, env, h => by simp [puts]
 | w :: W, [], env, h => rfl
 | w :: W, v :: vs, env, h => by
  simp at h;simp [puts];rw [Y10 h.2, Y16, X2 (fun e => h.1 e.1)]
theorem Y4t {r : Nat} : ∀ {W : List Nat} {vs : List AV} {env env' : Env}, r ∈ W -> vs.length = W.length -> env.length = env'.length -> get (puts env W vs) r = get (puts env' W vs) r
 | [], vs, env, env', h, _, _ => by simp at h
 | w :: W, [], env, env', h, hl, _ => by simp at hl
 | w :: W, v :: vs, env, env', h, hl, he => by
  simp [puts];by_cases g : r ∈ W
  ·exact Y4t g (by simpa using hl) (by rw [Y5, Y5, he])
  ·rw [Y10 g, Y10 g, Y16, Y16, he];have i : r = w :=gr;by_cases b : w < env'.length
   ·grind
   ·rw [X2 (fun e => b e.2), X2 (fun e => b e.2), Y11 _ _ om, Y11 _ _ om]
theorem Yab {w : Nat} {v : AV} : ∀ {W : List Nat} {vs : List AV} {env : Env}, w ∉ W -> puts (put env w v) W vs = put (puts env W vs) w v
 | [], vs, env, h => by simp [puts]
 | w' :: W, [], env, h => rfl
 | w' :: W, v' :: vs, env, h => by
  simp at h;simp [puts];rw [Yaa env v v' h.1, Yab h.2]
theorem Y8s : ∀ {W b : List Nat} {vs vs' : List AV} {env : Env}, (∀ w ∈ W, w ∉ b) -> puts (puts env W vs) b vs' = puts (puts env b vs') W vs
 | [], b, vs, vs', env, h => by simp [puts]
 | w :: W, b, [], vs', env, h => by simp [puts]
 | w :: W, b, v :: vs, vs', env, h => by
  simp [puts];rw [Y8s (fun w' g => h w' (X3 _ g)), Yab (h w Xp)]
section
variable (J : Nat -> AV -> Prop) (step : Nat -> Env -> Option Env) (foot : Nat -> Env -> Foot)
def AllJ (env : Env) : Prop := ∀ r, J r (get env r)
def Mild : Prop := ∀ i env W Rd env', AllJ J env -> foot i env = some (W, Rd) -> step i env = some env' -> ∃ vs, vs.length = W.length /\ env' = puts env W vs /\ ∀ env2 : Env, AllJ J env2 -> env2.length = env.length -> (∀ k ∈ W ++ Rd, get env2 k = get env k) -> step i env2 = some (puts env2 W vs) /\ foot i env2 = some (W, Rd)
def Trace : List Nat -> Env -> Env -> (Nat -> Foot) -> Prop
 | [], e, E, _ => AllJ J e /\ e = E
 | i :: l, e, E, φ => AllJ J e /\ foot i e = φ i /\ ∃ b, step i e = some b /\ Trace l b E φ
variable {J step foot}
theorem Trace.all {l : List Nat} {e E : Env} {b : Nat -> Foot} (h : Trace J step foot l e E b) : AllJ J e := by
 cases l with
 | nil => exact h.1
 | cons i l => exact h.1
theorem Trace.swap (N : Mild J step foot) {x y : Nat} {l : List Nat} {e E : Env} {m : Nat -> Foot} (h : Trace J step foot (x :: y :: l) e E m) (j : Dis (m x) (m y)) : Trace J step foot (y :: x :: l) e E m := by
 obtain ⟨C, fx, e1, sx, I, M, e2, sy, U⟩ := h;have L := U.all;cases b : m x with
 | none => rw [b] at j; exact j.elim
 | some p =>
  cases g : m y with
  | none => rw [b, g] at j; exact j.elim
  | some q =>
   obtain ⟨W, R⟩ := p;obtain ⟨z, V⟩ := q;rw [b, g] at j;obtain ⟨d1, d2⟩ := j;rw [b] at fx;rw [g] at M;obtain ⟨vs, lx, rfl, kx⟩ := N x e W R e1 C fx sx;obtain ⟨B, ly, rfl, ky⟩ := N y (puts e W vs) z V e2 I M sy;have dW : ∀ w ∈ z, w ∉ W := fun w F G => (d1 w G).1 F;obtain ⟨X, Y⟩ := ky e C (Y25 _ _ _).symm (fun k i => by
    rw [Y10];intro D;rcases X6.1 i with i | i
    ·grind
    ·grind)
   have A : AllJ J (puts e z B) := fun r => by
    by_cases O : r ∈ z
    ·rw [Y4t O ly (Y25 W vs e).symm];exact L r
    ·rw [Y10 O]; exact C r
   obtain ⟨Z, b2⟩ := kx (puts e z B) A (Y25 _ _ _) (fun k i => by
    rw [Y10];intro D;rcases X6.1 i with i | i
    ·grind
    ·grind)
   refine ⟨C, Y.trans g.symm, _, X, A, b2.trans b.symm, _, Z, ?_⟩;rw [Y8s (fun w F => dW w F)];exact U
theorem Trace.move (i : Mild J step foot) {x : Nat} {B : List Nat} {E : Env} {b : Nat -> Foot} : ∀ {A : List Nat} {e : Env}, Trace J step foot (x :: (A ++ B)) e E b -> (∀ a ∈ A, Dis (b x) (b a)) -> Trace J step foot (A ++ x :: B) e E b
 | [], e, h, _ => h
 | a :: A, e, h, hd => by
  obtain ⟨m, p, l, k2, q⟩ := Trace.swap i h (hd a sm);exact ⟨m, p, l, k2, Trace.move i q (fun j g => hd j (by simp [g]))⟩
theorem Trace.reorder (y : Mild J step foot) {E : Env} {p : Nat -> Foot} : ∀ {l b : List Nat} {e : Env}, l.Pairwise (· < ·) -> b.Perm l -> b.Pairwise (fun a x => x < a -> Dis (p x) (p a)) -> Trace J step foot l e E p -> Trace J step foot b e E p
 | [], b, e, _, hp, _, h => by simp_all
 | x :: l, b, e, hs, hp, hg, ⟨k0, k1, e1, k2, k3⟩ => by
  have D : x ∈ b := hp.symm.subset sm;obtain ⟨A, B, rfl⟩ := List.append_of_mem D;have g : (A ++ B).Perm l := by
   have C : (x :: (A ++ B)).Perm (x :: l) := List.perm_middle.symm.trans hp;exact List.Perm.cons_inv C
  have j := X1j.1 hs;have m : (A ++ B).Sublist (A ++ x :: B) := List.Sublist.append_left (List.sublist_cons_self x B) A;have i := Trace.reorder y j.2 g (hg.sublist m) k3;refine Trace.move y ⟨k0, k1, e1, k2, i⟩ (fun a z => ?_);have q : x < a := j.1 a (g.subset (Xe _ z));exact (List.pairwise_append.1 hg).2.2 a z x sm q
end
def unl (n : Nat) (b : Array Bool) : List Nat := (List.range n).filter fun i => !b.getD i true
theorem Y96 (m : Region.Mode) (ops : Array Oper) : ∀ (fuel t : Nat) (b : Array Bool) (g : List Nat), Region.linearise.go m ops fuel t b g = g.reverse ++ Region.linearise.go m ops fuel t b [] := linearise_go_acc m ops
theorem Yez {b : Array Bool} (p : b.size = n) {i : Nat} (l : i ∈ unl n b) : (unl n b).Perm (i :: unl n (b.setIfInBounds i true)) := by
 have j : (unl n b).Nodup := List.Nodup.sublist X37 List.nodup_range;have g : (i :: unl n (b.setIfInBounds i true)).Nodup := by
  refine X1q.2 ⟨fun h => ?_, List.Nodup.sublist X37 List.nodup_range⟩;simp only [unl, X1s, X1v] at h;have : i < b.size :=om;simp [this] at h
 refine (List.perm_ext_iff_of_nodup j g).2 (fun k => ?_);simp [unl] at l ⊢;by_cases m : k = i
 ·grind
 ·grind
theorem Ybl (m : Region.Mode) (ops : Array Oper) (b : ∀ (i : Nat) (o : Oper), ops[i]? = some o -> ∀ e ∈ o.after, Region.binds m e = true -> e.on < i) : ∀ (fuel t : Nat) (listed : Array Bool), listed.size = ops.size -> (unl ops.size listed).length <= fuel ->
  (Region.linearise.go m ops fuel t listed []).Perm (unl ops.size listed) /\ ∀ (A : List Nat) (i : Nat) (B : List Nat), Region.linearise.go m ops fuel t listed [] = A ++ i :: B -> ∀ (o : Oper), ops[i]? = some o -> ∀ e ∈ o.after, Region.binds m e = true -> listed.getD e.on false = true \/ e.on ∈ A
 | 0, t, listed, hs, hl => by
  have : unl ops.size listed = [] := Xo.1 om;rw [this];exact ⟨by simp [Region.linearise.go], fun A i B h => by simp [Region.linearise.go] at h⟩
 | fuel + 1, t, listed, hs, hl => by
  rw [Region.linearise.go]
  let rs := (List.range ops.size).filter fun i => !listed.getD i true && ((ops[i]?).map (·.after.all fun e => !Region.binds m e || listed.getD e.on false)).getD false
  have I : ∀ i ∈ rs, i ∈ unl ops.size listed /\ ∀ (o : Oper), ops[i]? = some o -> ∀ e ∈ o.after, Region.binds m e = true -> listed.getD e.on false = true := by
   intro i N;simp [rs] at N;obtain ⟨z, h2, O⟩ := N;refine ⟨by simp [unl]; exact ⟨z, h2⟩, fun o ho e D U => ?_⟩;rw [ho] at O;simp only [X1w, X2y, Array.all_eq_true'] at O;have := O e D;simpa [U] using this
  cases M : unl ops.size listed with
  | nil =>
   have L : rs = [] := by
    apply X2c.2;intro i N;have := (I i N).1;rw [M] at this;simp at this
   have e0 : rs[t % rs.length]? = none := by rw [L]; rfl
   refine ⟨by rw [e0]; exact List.Perm.refl _, fun A i B h => ?_⟩;change (match rs[t % rs.length]? with | some i => Region.linearise.go m ops fuel (t / rs.length) (listed.setIfInBounds i true) [i] | none => [].reverse) = _ at h;rw [e0] at h;simp at h
  | cons i0 us =>
   have X : i0 ∈ rs := by
    have g : i0 ∈ unl ops.size listed := by rw [M]; simp
    simp only [unl, X1s, X1v] at g;simp only [rs, X1s, X1v, X9];refine ⟨g.1, g.2, ?_⟩;rw [Xu g.1];simp only [X1w, X2y, Array.all_eq_true'];intro e D;apply Xs;intro C;have V : Region.binds m e = true :=gr;apply C;have y := b i0 _ (Xu g.1) e D V;have : listed.getD e.on false = true := by
     apply Xs;intro F;have hsz : e.on < listed.size :=om;have q : e.on ∈ unl ops.size listed := by
      simp only [unl, X1s, X1v];refine ⟨om, ?_⟩;simp only [X11, Xu hsz, X2y] at F ⊢;simpa using F
     rw [M] at q;have p : (i0 :: us).Pairwise (· < ·) := by
      rw [<- M];exact List.Pairwise.sublist X37 List.pairwise_lt_range
     rcases Xr.1 q with h | h
     ·omega
     ·have := (X1j.1 p).1 _ h;omega
    rw [this];simp
   have G : 0 < rs.length := List.length_pos_of_mem X;have y : t % rs.length < rs.length := Nat.mod_lt _ G
   let i := rs[t % rs.length]
   have ei : rs[t % rs.length]? = some i := X1 y;have Z : i ∈ rs := List.getElem_mem y;obtain ⟨k1, k2⟩ := I i Z;have l := Yez hs k1;have E : (unl ops.size (listed.setIfInBounds i true)).length <= fuel := by
    have := l.length_eq;simp at this;omega
   obtain ⟨g1, g2⟩ := Ybl m ops b fuel (t / rs.length) (listed.setIfInBounds i true) (by simpa using hs) E;have eg : Region.linearise.go m ops fuel (t / rs.length) (listed.setIfInBounds i true) [i] = i :: Region.linearise.go m ops fuel (t / rs.length) (listed.setIfInBounds i true) [] := by
    rw [Y96]; rfl
   rw [<- M];refine ⟨by rw [ei]; simp only; rw [eg]; exact (List.Perm.cons i g1).trans l.symm, fun A j B h o ho e D U => ?_⟩;change (match rs[t % rs.length]? with | some i => Region.linearise.go m ops fuel (t / rs.length) (listed.setIfInBounds i true) [i] | none => [].reverse) = _ at h;rw [ei] at h;simp only at h;rw [eg] at h;cases A with
   | nil => grind
   | cons a A =>
    simp at h;obtain ⟨rfl, h⟩ := h;rcases g2 A j B h o ho e D U with z | z
    ·by_cases W : e.on = i
     ·grind
     ·left;have Y : ¬ i = e.on := fun h => W h.symm;simp only [X11, X1z, X2 Y] at z ⊢;exact z
    ·grind
section
variable {R : Type} {T : Tab} {sig : FuncId -> Option Sig} {caps : FuncId -> List Ty} {orc : Orc}
theorem Ycb (g : BinOp) (k : IntKind) (a b : Int) (K : AV -> Option R) : intOp g k a b K = (intOp g k a b some).bind K := by
 unfold intOp
 repeat' split
 all_goals first | rfl | (cases h : decide (b = 0) <;> rfl) | (cases h : decide (b < 0) <;> rfl) | skip
theorem Ycc (g : BinOp) (a b : ByteArray) (K : AV -> Option R) : strOp g a b K = (strOp g a b some).bind K := by
 unfold strOp
 repeat' split
 all_goals first | rfl | (cases h : decide (a.size + b.size <= 140737488355328) <;> rfl)
theorem Yac (g : BinOp) (k : IntKind) (a b : Int) (K : AV -> Option R) : shiftOp g k a b K = (shiftOp g k a b some).bind K := by
 unfold shiftOp;split
 ·grind
 ·cases h : decide (b < 0) <;> rfl
 ·rfl
theorem Ycd (b : BinOp) (t : TypeId) (x y : AV) (K : AV -> Option R) : aggOp T b t x y K = (aggOp T b t x y some).bind K := rfl
theorem Y3e (b : BinOp) (t : TypeId) (x y : AV) (K : AV -> Option R) : binOp1 T b t x y K = (binOp1 T b t x y some).bind K := by
 unfold binOp1
 repeat' split
 all_goals first | rfl | exact Ycb _ _ _ _ _ | exact Yac _ _ _ _ _ | exact Ycc _ _ _ _ | exact Ycd _ _ _ _ _
theorem Y3x (b : UnOp) (x : AV) (K : AV -> Option R) : unOp1 b x K = (unOp1 b x some).bind K := by
 unfold unOp1
 repeat' split
 all_goals first | rfl
theorem Y5d (te : TE) (lv : Lvl) (s x : List te.ty.D) (K : Leaf -> Option R) : appendTo te lv s x K = (appendTo te lv s x some).bind K := by
 unfold appendTo;cases h : decide ((s.length + x.length) * te.bytes <= 140737488355328) <;> rfl
theorem Yz {b : Bool} {α g : Type} {x : Option α} {k : α -> Option g} {y : Option g} (h : y = x.bind k) : (bif b then y else none) = (bif b then x else none).bind k :=gr
theorem Y6f {α i b : Type} {z : Option b} {f : b -> Option α} {g : b -> Option i} {k : α -> Option i} (h : ∀ c, g c = (f c).bind k) : z.bind g = (z.bind f).bind k := by
 cases z
 ·rfl
 ·exact h _
theorem Y5e (te : TE) (lv : Lvl) (s x : List te.ty.D) (G : Leaf -> Env) (K : Env -> Option R) : appendTo te lv s x (fun l => K (G l)) = (appendTo te lv s x (fun l => some (G l))).bind K := by
 rw [Y5d, Y5d te lv s x (fun l => some (G l))];exact Y6f (fun _ => rfl)
theorem Yb6 (b : BinOp) (t : TypeId) (x y : AV) (G : AV -> Env) (K : Env -> Option R) : binOp1 T b t x y (fun l => K (G l)) = (binOp1 T b t x y (fun l => some (G l))).bind K := by
 rw [Y3e, Y3e b t x y (fun l => some (G l))];exact Y6f (fun _ => rfl)
theorem Yce (b : UnOp) (x : AV) (G : AV -> Env) (K : Env -> Option R) : unOp1 b x (fun l => K (G l)) = (unOp1 b x (fun l => some (G l))).bind K := by
 rw [Y3x, Y3x b x (fun l => some (G l))];exact Y6f (fun _ => rfl)
theorem Yad (d : Option Nat) (te : TE) (s : Operand) (xs : List te.ty.D) (b : Bool) (env : Env) (K : Env -> Option R) : appendS d te s xs b env K = (appendS d te s xs b env some).bind K := by
 unfold appendS
 repeat' split
 all_goals first | rfl | exact Y5e _ _ _ _ _ _
theorem Yae (d : Option Nat) (t : TypeId) (s x : Operand) (env : Env) (K : Env -> Option R) : append1 T d t s x env K = (append1 T d t s x env some).bind K := by
 unfold append1
 repeat' split
 all_goals first | rfl | exact Yad _ _ _ _ _ _ _
theorem Yaf (d : Nat) (te : TE) (r j : Nat) (i : Int) (o : Nat) (x : Operand) (env : Env) (K : Env -> Option R) : appendN d te r j i o x env K = (appendN d te r j i o x env some).bind K := by
 unfold appendN
 repeat' split
 all_goals first | rfl | skip
 all_goals (refine Yz ?_; repeat' split)
 all_goals first | rfl | exact Y5e _ _ _ _ _ _
theorem Y8c (r j : Nat) (i0 : Int) (g : Nat) (b : Int) (z : Nat) (i : Int) (o : Nat) (ls : List Leaf) (env : Env) (K : Env -> Option R) : storeNest r j i0 g b z i o ls env K = (storeNest r j i0 g b z i o ls env some).bind K := by
 unfold storeNest
 repeat' split
 all_goals rfl
theorem Y8d (s r j : Nat) (i : Int) (o : Nat) (l : Leaf) (a : Operand) (env : Env) (K : Env -> Option R) : storeGrow s r j i o l a env K = (storeGrow s r j i o l a env some).bind K := by
 unfold storeGrow
 repeat' split
 all_goals first | rfl | (exact Yz rfl) | (refine Yz ?_; split <;> rfl)
theorem Ycf (d : Option Nat) (f : FuncId) (sg : Sig) (args : List Operand) (extra : List AV) (env : Env) (K : Env -> Option R) : callM caps orc d f sg args extra env K = (callM caps orc d f sg args extra env some).bind K := by
 unfold callM;split
 ·split
  ·simp only;split
   ·split
    ·split
     ·rfl
     ·split
      ·rfl
      ·refine Y6f (fun xs => ?_);split
       ·rfl
       ·grind
    ·rfl
   ·rfl
  ·rfl
 ·rfl
theorem Ycg (d : Option Nat) (f : FuncId) (sg : Sig) (args : List Operand) (extra : List AV) (env : Env) (K : Env -> Option R) : callO caps orc d f sg args extra env K = (callO caps orc d f sg args extra env some).bind K := by
 unfold callO;split
 ·split
  ·split
   ·simp only;split
    ·split
     ·rfl
     ·grind
    ·rfl
   ·rfl
  ·rfl
 ·rfl
theorem Ych (d : Option Nat) (f : FuncId) (sg : Sig) (args : List Operand) (extra : List AV) (env : Env) (K : Env -> Option R) : callS orc d f sg args extra env K = (callS orc d f sg args extra env some).bind K := rfl
theorem Yci (d : Option Nat) (f : FuncId) (sg : Sig) (b : BoxSig) (args : List Operand) (extra : List AV) (env : Env) (K : Env -> Option R) : callB caps orc d f sg b args extra env K = (callB caps orc d f sg b args extra env some).bind K := by
 unfold callB;simp only;split
 ·split
  ·split
   ·split
    ·rfl
    ·split
     ·rfl
     ·grind
   ·rfl
  ·rfl
 ·rfl
theorem Ycj (d : Option Nat) (f : FuncId) (sg : Sig) (id : TypeId) (args : List Operand) (extra : List AV) (env : Env) (K : Env -> Option R) : callN caps orc d f sg id args extra env K = (callN caps orc d f sg id args extra env some).bind K := by
 unfold callN;simp only;split
 ·split
  ·rfl
  ·grind
 ·rfl
theorem Yck (k : Nat) (d : Option Nat) (f : FuncId) (sg : Sig) (args : List Operand) (extra : List AV) (env : Env) (K : Env -> Option R) : callG caps orc k d f sg args extra env K = (callG caps orc k d f sg args extra env some).bind K := by
 unfold callG;split
 ·split
  ·split
   ·simp only;split
    ·split
     ·rfl
     ·grind
    ·rfl
   ·rfl
  ·rfl
 ·rfl
theorem Yag (t : TypeId) (a v : Operand) (env : Env) (K : Env -> Option R) : storeFn t a v env K = (storeFn t a v env some).bind K := by
 unfold storeFn;split
 ·grind
 ·rfl
theorem Y3y (d : Option Nat) (f : FuncId) (args : List Operand) (extra : List AV) (env : Env) (K : Env -> Option R) : call1 sig caps orc d f args extra env K = (call1 sig caps orc d f args extra env some).bind K := by
 unfold call1;split
 ·rfl
 ·split
  ·exact Yci _ _ _ _ _ _ _ _
  split
  ·exact Ycj _ _ _ _ _ _ _ _
  split
  ·split
   ·split
    ·exact Ych _ _ _ _ _ _ _
    ·exact Yck _ _ _ _ _ _ _ _
   simp only;split
   ·split
    ·rfl
    ·grind
   ·rfl
  ·split
   ·exact Ycg _ _ _ _ _ _ _
   ·exact Ycf _ _ _ _ _ _ _
theorem Yb7 (t : TypeId) (a v : Operand) (env : Env) (K : Env -> Option R) : store1 T t a v env K = (store1 T t a v env some).bind K := by
 unfold store1;split
 ·exact Yag _ _ _ _ _
 split
 ·split
  ·exact Y8d _ _ _ _ _ _ _ _ _
  ·rfl
 unfold storePlain
 repeat' split
 all_goals first | rfl | exact Y8c _ _ _ _ _ _ _ _ _ _ _ | (refine Yz ?_; split <;> rfl) | (simp only; repeat' split) | skip
 all_goals first | rfl | exact Yz rfl
theorem Ycl (d : Nat) (o : Oper) (env : Env) (K : Env -> Option R) : evVal T sig caps orc d o env K = (evVal T sig caps orc d o env some).bind K := by
 cases g : o.op with
 | binOp j t x y A => simp [evVal, g]; exact Yb6 _ _ _ _ _ _
 | unOp j t x => simp [evVal, g]; exact Yce _ _ _ _
 | pick m a b =>
  simp [evVal, g];split
  ·grind
  ·rfl
 | index t x i =>
  simp [evVal, g];split
  ·grind
  ·rfl
 | call p =>
  simp [evVal, g];split
  ·exact Y3y _ _ _ _ _ _
  ·split
   ·exact Y3y _ _ _ _ _ _
   ·exact Y3y _ _ _ _ _ _
   ·exact Y3y _ _ _ _ _ _
   ·rfl
  ·grind
  ·repeat' split
   all_goals first | rfl | exact Yae _ _ _ _ _ _ | exact Yaf _ _ _ _ _ _ _ _ _
  ·repeat' split
   all_goals rfl
  ·repeat' split
   all_goals rfl
  ·rfl
 | makeFunc fn first h =>
  cases fn with
  | func f =>
   simp [evVal, g];split
   ·grind
   ·rfl
  | _ => simp only [evVal, g]; rfl
 | slice t x z q mx =>
  simp [evVal, g]
  repeat' split
  all_goals first | rfl | exact Yz rfl
 | indexAddr t x i =>
  simp [evVal, g]
  repeat' split
  all_goals first | rfl | exact Yz rfl
 | makeSlice t l c =>
  simp [evVal, g]
  repeat' split
  all_goals first | rfl | exact Yz rfl
 | extract x i =>
  simp [evVal, g]
  repeat' split
  all_goals rfl
 | load t x =>
  simp [evVal, g]
  repeat' split
  all_goals rfl
 | fieldAddr t x f =>
  simp [evVal, g]
  repeat' split
  all_goals rfl
 | field t x f =>
  simp [evVal, g]
  repeat' split
  all_goals rfl
 | build t ps =>
  simp [evVal, g]
  repeat' split
  all_goals rfl
 | buildSlice t n ps =>
  simp [evVal, g]
  repeat' split
  all_goals rfl
 | convert t u x =>
  simp [evVal, g]
  repeat' split
  all_goals rfl
 | nilCheck x =>
  simp [evVal, g]
  repeat' split
  all_goals rfl
 | alloc e =>
  simp [evVal, g]
  repeat' split
  all_goals rfl
 | box e x =>
  simp [evVal, g]
  repeat' split
  all_goals rfl
 | assign x =>
  simp [evVal, g]
  repeat' split
  all_goals rfl
 | move x => simp only [evVal, g]; rfl
 | _ => simp only [evVal, g]; rfl
theorem Y4h (o : Oper) (env : Env) (K : Env -> Option R) : evOp T sig caps orc o env K = (evOp T sig caps orc o env some).bind K := by
 unfold evOp
 repeat' split
 all_goals first | rfl | exact Ycl _ _ _ _ | exact Yb7 _ _ _ _ _
theorem Y3f (o : Oper) (env : Env) (K : Env -> Option R) : skipOp o env K = (skipOp o env some).bind K := by
 unfold skipOp
 repeat' split
 all_goals rfl
theorem Ycm (ops : Array Oper) (o : Oper) (rest : List Oper) (env : Env) (K : Env -> Option R) : evOps T sig caps orc ops (o :: rest) env K = (evOps T sig caps orc ops [o] env some).bind fun env' => evOps T sig caps orc ops rest env' K := by
 simp [evOps];split
 ·exact Y4h _ _ _
 ·split
  ·rfl
  ·split
   ·exact Y3f _ _ _
   ·rename_i b _;cases b
    ·simp [cond_false];split
     ·exact Y3f _ _ _
     ·exact Y4h _ _ _
    ·simp [X2k];split
     ·exact Y4h _ _ _
     ·exact Y3f _ _ _
   ·rfl
end
def rootsOf : AV -> List Nat
 | .path r _ => [r]
 | .clo _ caps => caps.map (·.1)
 | _ => []
def opReads (env : Env) : Operand -> List Nat
 | .tmp s => s :: rootsOf (get env s)
 | _ => []
def opSelf : Operand -> List Nat
 | .tmp s => [s]
 | _ => []
def Agree (S : List Nat) (b e2 : Env) : Prop := e2.length = b.length /\ ∀ k ∈ S, get e2 k = get b k
theorem Agree.mono {S S' : List Nat} {b e2 : Env} (h : Agree S b e2) (i : ∀ k ∈ S', k ∈ S) : Agree S' b e2 := ⟨h.1, fun k g => h.2 k (i k g)⟩
theorem Agree.rd {env env2 : Env} (h : Agree (opReads env x) env env2) (ty : Option Ty) : rd ty env2 x = rd ty env x := by
 cases x with
 | tmp s =>
  have := h.2 s (by simp [opReads]);simp [FP.rd, this]
 | _ => rfl
theorem Agree.rdS {env env2 : Env} (h : Agree (opSelf x) env env2) (ty : Option Ty) : FP.rd ty env2 x = FP.rd ty env x := by
 cases x with
 | tmp s =>
  have := h.2 s (by simp [opSelf]);simp only [FP.rd, this]
 | _ => rfl
theorem Agree.reads {env env2 : Env} (h : Agree (opReads env x) env env2) : opReads env2 x = opReads env x := by
 cases x with
 | tmp s =>
  have := h.2 s (by simp [opReads]);simp [opReads, this]
 | _ => rfl
theorem Agree.root {env env2 : Env} {q off : Nat} (h : Agree (opReads env x) env env2) (ty : Option Ty) (b : FP.rd ty env x = .path q off) : get env2 q = get env q \/ (∃ s, x = .tmp s /\ s = q) := by
 cases x with
 | tmp s =>
  simp [FP.rd] at b;cases j : get env s with
  | path r o =>
   rw [j] at b;simp at b;exact .inl (h.2 q (by simp [opReads, j, rootsOf, b.1]))
  | con k ls => grind
  | _ => grind
 | const v =>
  exfalso;have i : ∀ ty, constAV ty v ≠ .path q off := by
   intro ty h;unfold constAV at h;split at h
   ·simp at h
   ·split at h
    ·split at h
     ·simp [mkCon] at h
     ·simp at h
    ·simp at h
  simp [FP.rd] at b;split at b <;> first | (simp at b; done) | exact i _ b
 | func f => simp [FP.rd] at b
 | global g => simp [FP.rd] at b
theorem Agree.rootB {env env2 : Env} {q off : Nat} (h : Agree (opReads env x) env env2) (ty : Option Ty) (g : FP.rd ty env x = .path q off) : get env2 q = get env q := by
 rcases h.root ty g with b | ⟨s, rfl, rfl⟩
 ·exact b
 ·exact h.2 s (by simp [opReads])
def pureReads (env : Env) : Op -> Option (List Nat)
 | .move x => some (opSelf x)
 | .nilCheck x | .load _ x | .fieldAddr _ x _ | .field _ x _ | .unOp _ _ x | .convert _ _ x => some (opReads env x)
 | .pick c a b => some (opReads env c ++ (opReads env a ++ opReads env b))
 | .binOp _ _ x y _ | .indexAddr _ x y | .index _ x y | .makeSlice _ x y => some (opReads env x ++ opReads env y)
 | .alloc _ => some []
 | .makeFunc _ _ g => some (g.toList.flatMap (opReads env))
 | _ => none
section
variable {R : Type} {T : Tab} {sig : FuncId -> Option Sig} {caps : FuncId -> List Ty} {orc : Orc}
theorem Ycn {b : BinOp} {t : TypeId} {x y : AV} {G : AV -> Env} {e : Env} (h : binOp1 T b t x y (fun v => some (G v)) = some e) : ∃ v, e = G v /\ ∀ {A : Type} (K : AV -> Option A), binOp1 T b t x y K = K v := by
 rw [Y3e] at h;obtain ⟨v, g, i⟩ := Xt.1 h;exact ⟨v, (Xq i).symm, fun K => by rw [Y3e, g]; rfl⟩
theorem Ydd {b : UnOp} {x : AV} {G : AV -> Env} {e : Env} (h : unOp1 b x (fun v => some (G v)) = some e) : ∃ v, e = G v /\ ∀ {A : Type} (K : AV -> Option A), unOp1 b x K = K v := by
 rw [Y3x] at h;obtain ⟨v, g, i⟩ := Xt.1 h;exact ⟨v, (Xq i).symm, fun K => by rw [Y3x, g]; rfl⟩
theorem Y3 (h : (get env d).quiet = true) (v : AV) : setD (some d) env v = put env d v := by
 simp [setD, h]
theorem Yde {env e1 : Env} {Rd : List Nat} (p : pureReads env o.op = some Rd) (B : (get env d).quiet = true) (h : evVal T sig caps orc d o env some = some e1) :
  ∃ v, e1 = put env d v /\ ∀ env2, Agree Rd env env2 -> (get env2 d).quiet = true -> evVal T sig caps orc d o env2 some = some (put env2 d v) /\ pureReads env2 o.op = some Rd := by
 cases g : o.op with
 | move x =>
  rw [g] at p;simp only [pureReads, X0] at p;subst p;simp only [evVal, g, X0] at h;rw [Y3 B] at h;exact ⟨_, h.symm, fun env2 j i => ⟨by simp only [evVal, g]; rw [j.rdS, Y3 i], by simp only [pureReads]⟩⟩
 | nilCheck x =>
  rw [g] at p;simp only [pureReads, X0] at p;subst p;simp only [evVal, g] at h;split at h
  ·rename_i q off A;simp only [X0] at h;rw [Y3 B] at h;exact ⟨_, h.symm, fun env2 j i => ⟨by simp only [evVal, g]; rw [j.rd, A]; simp only [Y3 i], by simp only [pureReads, j.reads]⟩⟩
  ·rename_i f cs A;simp only [X0] at h;rw [Y3 B] at h;exact ⟨_, h.symm, fun env2 j i => ⟨by simp only [evVal, g]; rw [j.rd, A]; simp only [Y3 i], by simp only [pureReads, j.reads]⟩⟩
  ·rename_i f cs A;simp only [X0] at h;rw [Y3 B] at h;exact ⟨_, h.symm, fun env2 j i => ⟨by simp only [evVal, g]; rw [j.rd, A]; simp only [Y3 i], by simp only [pureReads, j.reads]⟩⟩
  ·rename_i f cs A;simp only [X0] at h;rw [Y3 B] at h;exact ⟨_, h.symm, fun env2 j i => ⟨by simp only [evVal, g]; rw [j.rd, A]; simp only [Y3 i], by simp only [pureReads, j.reads]⟩⟩
  ·rename_i f cs A;simp only [X0] at h;rw [Y3 B] at h;exact ⟨_, h.symm, fun env2 j i => ⟨by simp only [evVal, g]; rw [j.rd, A]; simp only [Y3 i], by simp only [pureReads, j.reads]⟩⟩
  ·simp at h
 | load t x =>
  rw [g] at p;simp only [pureReads, X0] at p;subst p;simp only [evVal, g] at h;split at h
  ·rename_i τ G;split at h
   ·rename_i q off A;split at h
    ·rename_i e ls L;split at h
     ·rename_i F;simp only [X0] at h;rw [Y3 B] at h;exact ⟨_, h.symm, fun env2 j i => ⟨by simp only [evVal, g]; rw [G]; simp only; rw [j.rd, A]; simp only; rw [j.rootB none A, L]; simp only; rw [X4 F, Y3 i], by simp only [pureReads, j.reads]⟩⟩
     ·simp at h
    ·simp at h
   ·rename_i ls wr A;split at h
    ·rename_i F;simp only [X0] at h;rw [Y3 B] at h;exact ⟨_, h.symm, fun env2 j i => ⟨by simp only [evVal, g]; rw [G]; simp only; rw [j.rd, A]; simp only; rw [X4 F, Y3 i], by simp only [pureReads, j.reads]⟩⟩
    ·simp at h
   ·simp at h
  ·rename_i G;split at h
   ·rename_i N;split at h
    ·rename_i f cs A;simp only [X0] at h;rw [Y3 B] at h;exact ⟨_, h.symm, fun env2 j i => ⟨by simp only [evVal, g]; rw [G]; simp only; rw [X4 N, j.rd, A]; simp only [Y3 i], by simp only [pureReads, j.reads]⟩⟩
    ·simp at h
   ·simp at h
 | fieldAddr s x f =>
  rw [g] at p;simp only [pureReads, X0] at p;subst p;simp only [evVal, g] at h;split at h
  ·rename_i off τ U;split at h
   ·rename_i q o' A;simp only [X0] at h;rw [Y3 B] at h;exact ⟨_, h.symm, fun env2 j i => ⟨by simp only [evVal, g]; rw [U]; simp only; rw [j.rd, A]; simp only [Y3 i], by simp only [pureReads, j.reads]⟩⟩
   ·rename_i ls wr A;simp only [X0] at h;rw [Y3 B] at h;exact ⟨_, h.symm, fun env2 j i => ⟨by simp only [evVal, g]; rw [U]; simp only; rw [j.rd, A]; simp only [Y3 i], by simp only [pureReads, j.reads]⟩⟩
   ·simp at h
  ·simp at h
 | field s x f =>
  rw [g] at p;simp only [pureReads, X0] at p;subst p;simp only [evVal, g] at h;split at h
  ·rename_i off τ U;split at h
   ·rename_i ls A;split at h
    ·rename_i F;simp only [X0] at h;rw [Y3 B] at h;exact ⟨_, h.symm, fun env2 j i => ⟨by simp only [evVal, g]; rw [U]; simp only; rw [j.rd, A]; simp only; rw [X4 F, Y3 i], by simp only [pureReads, j.reads]⟩⟩
    ·simp at h
   ·simp at h
  ·simp at h
 | unOp op t x =>
  rw [g] at p;simp only [pureReads, X0] at p;subst p;simp only [evVal, g] at h;obtain ⟨v, rfl, Y⟩ := Ydd h;exact ⟨v, Y3 B v, fun env2 j i => ⟨by simp only [evVal, g]; rw [j.rd, Y, Y3 i], by simp only [pureReads, j.reads]⟩⟩
 | convert s dt x =>
  rw [g] at p;simp only [pureReads, X0] at p;subst p;simp only [evVal, g] at h;split at h
  ·rename_i k k' k2 n V G O;simp only [X0] at h;rw [Y3 B] at h;exact ⟨_, h.symm, fun env2 j i => ⟨by simp only [evVal, g]; rw [V, G, j.rd, O]; simp only [Y3 i], by simp only [pureReads, j.reads]⟩⟩
  ·rename_i hne;split at h
   ·rename_i b L;simp only [X0] at h;rw [Y3 B] at h;refine ⟨_, h.symm, fun env2 j i => ⟨?_, by simp only [pureReads, j.reads]⟩⟩;have e : (fun ty => rd ty env2 x) = (fun ty => rd ty env x) := funext fun ty => j.rd ty;simp only [evVal, g];rw [j.rd none, e];split
    ·rename_i k k' k2 n V G O;exact (hne _ _ _ _ V G O).elim
    ·rw [L]; simp only [Y3 i]
   ·simp at h
 | pick cc x y =>
  rw [g] at p;simp only [pureReads, X0] at p;subst p;simp only [evVal, g] at h;split at h
  ·rename_i t L;cases t with
   | true =>
    simp only [X2k, X0] at h;rw [Y3 B] at h;refine ⟨_, h.symm, fun env2 j i => ?_⟩;have C := j.mono (S' := opReads env cc) (fun k z => Xe _ z);have D := j.mono (S' := opReads env x) (fun k z => Xf _ (Xe _ z));have W := j.mono (S' := opReads env y) (fun k z => Xf _ (Xf _ z));exact ⟨by simp only [evVal, g]; rw [C.rd, L]; simp only [X2k]; rw [D.rd, Y3 i], by simp only [pureReads, C.reads, D.reads, W.reads]⟩
   | false =>
    simp only [cond_false, X0] at h;rw [Y3 B] at h;refine ⟨_, h.symm, fun env2 j i => ?_⟩;have C := j.mono (S' := opReads env cc) (fun k z => Xe _ z);have D := j.mono (S' := opReads env x) (fun k z => Xf _ (Xe _ z));have W := j.mono (S' := opReads env y) (fun k z => Xf _ (Xf _ z));exact ⟨by simp only [evVal, g]; rw [C.rd, L]; simp only [cond_false]; rw [W.rd, Y3 i], by simp only [pureReads, C.reads, D.reads, W.reads]⟩
  ·simp at h
 | binOp op t x y t' =>
  rw [g] at p;simp only [pureReads, X0] at p;subst p;simp only [evVal, g] at h;obtain ⟨v, rfl, Y⟩ := Ycn h;refine ⟨v, Y3 B v, fun env2 j i => ?_⟩;have C := j.mono (S' := opReads env x) (fun k z => Xe _ z);have D := j.mono (S' := opReads env y) (fun k z => Xf _ z);exact ⟨by simp only [evVal, g]; rw [C.rd, D.rd, Y, Y3 i], by simp only [pureReads, C.reads, D.reads]⟩
 | indexAddr t x y =>
  rw [g] at p;simp only [pureReads, X0] at p;subst p;simp only [evVal, g] at h;split at h
  ·rename_i te M;split at h
   ·rename_i lx n A O;split at h
    ·rename_i xs hxs;split at h
     ·simp at h
     ·rename_i I;obtain ⟨X, h⟩ := Y1p h;simp only [X0] at h;rw [Y3 B] at h;refine ⟨_, h.symm, fun env2 j i => ?_⟩;have C := j.mono (S' := opReads env x) (fun k z => Xe _ z);have D := j.mono (S' := opReads env y) (fun k z => Xf _ z);exact ⟨by simp only [evVal, g]; rw [M]; simp only; rw [C.rd, D.rd, A, O]; simp only; rw [hxs]; simp only; rw [X2 I, X]; simp only [X2k, Y3 i], by simp only [pureReads, C.reads, D.reads]⟩
    ·simp at h
   ·simp at h
  ·simp at h
 | index t x y =>
  rw [g] at p;simp only [pureReads, X0] at p;subst p;simp only [evVal, g] at h;split at h
  ·rename_i s k n G V O;obtain ⟨b, L, h⟩ := Xt.1 h;simp only [X0] at h;rw [Y3 B] at h;refine ⟨_, h.symm, fun env2 j i => ?_⟩;have C := j.mono (S' := opReads env x) (fun k z => Xe _ z);have D := j.mono (S' := opReads env y) (fun k z => Xf _ z);exact ⟨by simp only [evVal, g]; rw [C.rd, D.rd, G, V, O]; simp only; rw [L]; simp only [X3a, Y3 i], by simp only [pureReads, C.reads, D.reads]⟩
  ·simp at h
 | makeSlice t x y =>
  rw [g] at p;simp only [pureReads, X0] at p;subst p;simp only [evVal, g] at h;split at h
  ·rename_i te n m M I Z;obtain ⟨X, h⟩ := Y1p h;simp only [X0] at h;rw [Y3 B] at h;refine ⟨_, h.symm, fun env2 j i => ?_⟩;have C := j.mono (S' := opReads env x) (fun k z => Xe _ z);have D := j.mono (S' := opReads env y) (fun k z => Xf _ z);exact ⟨by simp only [evVal, g]; rw [C.rd, D.rd, M, I, Z]; simp only; rw [X]; simp only [X2k, Y3 i], by simp only [pureReads, C.reads, D.reads]⟩
  ·simp at h
 | alloc e =>
  rw [g] at p;simp only [pureReads, X0] at p;subst p;simp only [evVal, g] at h;split at h
  ·rename_i τ M;simp only [X0] at h;rw [Y3 B] at h;exact ⟨_, h.symm, fun env2 j i => ⟨by simp only [evVal, g]; rw [M]; simp only [Y3 i], rfl⟩⟩
  ·rename_i M;split at h
   ·rename_i N;simp only [X0] at h;rw [Y3 B] at h;exact ⟨_, h.symm, fun env2 j i => ⟨by simp only [evVal, g]; rw [M]; simp only; rw [X4 N]; simp only [Y3 i], rfl⟩⟩
   ·simp at h
 | makeFunc fn first E =>
  rw [g] at p;simp only [pureReads, X0] at p;subst p;cases fn with
  | func f =>
   simp only [evVal, g] at h;split at h
   ·rename_i U;split at h
    ·rename_i cs Z;simp only [X0] at h;rw [Y3 B] at h;refine ⟨_, h.symm, fun env2 j i => ?_⟩;have A : ∀ x ∈ E.toList, Agree (opReads env x) env env2 := fun x A => j.mono (fun k z => Xi.2 ⟨x, A, z⟩);have hm : ∀ l : List Operand, (∀ x ∈ l, Agree (opReads env x) env env2) -> l.mapM (fun x => match rd none env2 x with | .path r off => some (r, off) | _ => none) = l.mapM (fun x => match rd none env x with | .path r off => some (r, off) | _ => none) := by
      intro l I
      induction l with
      | nil => rfl
      | cons x l ih =>
       rw [X2s, X2s, ih (fun y hy => I y (X3 _ hy)), (I x Xp).rd]
     have hf2 : ∀ l : List Operand, (∀ x ∈ l, Agree (opReads env x) env env2) -> l.flatMap (opReads env2) = l.flatMap (opReads env) := by
      intro l I
      induction l with
      | nil => rfl
      | cons x l ih => rw [X1u, X1u, ih (fun y hy => I y (X3 _ hy)), (I x Xp).reads]
     refine ⟨?_, by simp only [pureReads, hf2 _ A]⟩;simp only [evVal, g];rw [X4 U];erw [(hm _ A).trans Z];simp only [Y3 i]
    ·simp at h
   ·simp at h
  | _ => simp [evVal, g] at h
 | _ => rw [g] at p; simp [pureReads] at p
end
end Go.FP
