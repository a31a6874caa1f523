/- How Go values lie in memory, and an evaluator of code with its soundness (part 4 of 7). Conditions: those that stand in each theorem; nothing is assumed of any program. -/
import Derived.Test.YtdnmcmhnikjphaaGreatFpC

set_option linter.unusedVariables false
set_option linter.unusedSimpArgs false
set_option linter.unnecessarySimpa false

namespace Go.FP
open Go.RowKit
variable {S : Nat -> Prop} {w : World} {env : Env} {tmps : Array Value} {vs : Nat -> Value} {ps : Nat -> AV} {cs : Nat -> List Value} {bs : Nat -> Nat -> List Nat} {c : Cx} {s : St} {next : Act -> World -> Prop} {ls : List Leaf} {x : Operand} {t : Ty} {v : Value} {f : FuncId} {e : TypeId} {cells : List Value} {n : Nat} {u : Value} {rs : List (Ty × Lvl)} {k : Kind} {sg : Sig} {lv : Lvl} {τ : Ty} {w' : World} {xs : List (Σ t : Ty, t.D)} {us : List Value} {te : TE}
theorem Y2m (r j : Nat) (n : Leaf) (env : Env) : (syncPlace r j n env).length = env.length := by unfold syncPlace; rw [Y6, Y7]
theorem Y87 {r j : Nat} {n lf : Leaf} (h : (get env r).leaf? j = some lf) : (get (syncPlace r j n env) r).leaf? j = some n := by
 have g := Y1g h;obtain ⟨k, l, b⟩ : ∃ k ls, get env r = .con k ls := by
  cases i : get env r with
  | con k ls => exact ⟨k, ls, rfl⟩
  | _ => rw [i] at h; simp [AV.leaf?] at h
 unfold syncPlace;rw [Y2r (by rw [Y7]; exact g), Y0, Y15, b];rw [b] at h;simp only [AV.leaf?, Y2] at h;simp only [AV.chg, AV.setLeaf, AV.leaf?, Y2, Yd];rw [X1s (by rw [Yv]; exact (X6.1 h).1)]
theorem Y53 (z : Rel c (SS env ps tmps vs w cs bs)) {r j : Nat} {p : List t.D} (E : lv.deep = true)
  (y : (get env r).leaf? j = some ⟨.slice e t, p, .at_ lv⟩) (Z : 0 < p.length) :
  ∃ B L cells C, (cs r)[j]? = some (.slice (some ⟨B, 0, none⟩) p.length L) /\ bs r (j + 1) = B :: C /\ El (Rep (fun _ => False) w t .dp) t.sz cells p C /\ w.ownsRow 0 e t.sz (.slice (some ⟨B, 0, none⟩) p.length L) p.length cells := by
 have F := Y1g y;have i := z.av r;have O : (SS env ps tmps vs w cs bs).env r = get env r := Y8 F;rw [O] at i;obtain ⟨k, m, I⟩ : ∃ k ls, get env r = .con k ls := by
  cases X : get env r with
  | con k ls => exact ⟨k, ls, rfl⟩
  | _ => rw [X] at y; simp [AV.leaf?] at y
 rw [I] at i y;have l : leafAt m j = some ⟨.slice e t, p, .at_ lv⟩ := y;have W : j < m.length := by rw [Y2] at l; exact (X6.1 l).1
 have Y : m.length = (cs r).length := i.2.1;have G : (cs r)[j]? = some ((cs r)[j]' om) := X1 om;have A := (Rep.deep E).1 (i.2.2.2 j _ _ l G).rep;obtain ⟨v, cells, N, C, D, U, V, q⟩ := A;have D : (cs r)[j]' om = v := by simpa using D
 rw [D] at G;obtain ⟨q, M⟩ := q;rcases M.2 with ⟨_, hn⟩ | ⟨g, cap, cur, rfl, _⟩
 ·omega
 ·have q : N = [g] := q;subst q;exact ⟨g, cap, cells, C, G, U, El.imp (fun c x b hb h => Rep.dpS h) V, M⟩
theorem Y6x {sz n : Nat} {B k b : Nat} (h : w.ownsRow 0 e sz (.slice (some ⟨B, 0, none⟩) n b) n cells) (i : cells[k]? = some u) : w.cell? ⟨B, k, none⟩ = some u := by
 have := World.ownsRow.cells (g := B) h rfl k u i
 rwa [Y1c, X13] at this
section
variable {P : Program} {o : Oper} {a : Act} {w : World} {R : Type} {K : Env -> Option R} {r0 : R} {next : Act -> World -> Prop} {Q : Exit -> Act -> World -> Prop} {c : Cx} {d : Nat} {T : Tab} {env : Env}
theorem Yc5 (hT : TabOk P T) {t : TypeId} {s x : Operand} {cl : Call} {r j oo : Nat} {i : Int} (hop : o.op = .call cl) (hc : cl.callee = .builtin .append) (hargs : cl.args.toList = [s, x]) (htys : cl.argTypes.toList = [t, t]) (hdst : o.dst = some d)
  (hr : RE c env a.tmps w) (hd : d < env.length) (ht : elemAt T t = some te) (hs : nestOf env s = some (r, j, i, oo)) (C : appendN d te r j i oo x env K = some r0) (hn : Next c a K r0 env.length next) : o.wp P a w next Q := by
 unfold appendN at C;split at C
 ·rename_i lx hrd;split at C
  ·rename_i xs has;split at C
   ·rename_i hlf;obtain ⟨hl, hf⟩ := hlf;split at C
    ·rename_i e L N lv hq;split at C
     ·rename_i hlv;have hi : 0 <= i /\ i < (N.length : Int) := by
       apply Xr;intro h';have : (decide (0 <= i) && decide (i < (N.length : Int))) = false := by
        rw [X2l, X1h, X1h]; omega
       rw [this] at C; simp at C
      rw [X25 hi.1, X25 hi.2] at C
      replace C : (match leafD L (N.getD i.toNat L.dflt) oo with
       | some q => match (⟨q.1, q.2, .at_ .dp⟩ : Leaf).as (.slice te.id te.ty) with
        | some p => appendTo te .dp p xs fun l => K (setD (some d) (syncPlace r j ⟨.slice e L, N, .at_ lv⟩ env) (.grow r j i oo l))
        | none => none
       | none => none) = some r0 := C
      have hin : i.toNat < N.length :=om;have hgetD : N.getD i.toNat L.dflt = N[i.toNat] := by simp [hin]
      rw [hgetD] at C;split at C
      ·rename_i q hleaf;split at C
       ·rename_i p hrow;have hle := Leaf.as_eq hrow;have hq1 : q = ⟨.slice te.id te.ty, p⟩ := by
         obtain ⟨q1, q2⟩ := q;simp only [Leaf.mk.injEq] at hle;obtain ⟨rfl, h2, _⟩ := hle;simp only [heq_eq_eq] at h2;rw [h2]
        subst hq1;unfold appendTo at C;have g : (p.length + xs.length) * te.bytes <= 140737488355328 := by
         apply Xr;intro h';rw [decide_eq_false h'] at C;simp at C
        rw [X25 g] at C
        replace C : K (setD (some d) (syncPlace r j ⟨.slice e L, N, .at_ lv⟩ env) (.grow r j i oo ⟨.slice te.id te.ty, p ++ xs, .at_ .dp⟩)) = some r0 := C
        -- the name of the p
        unfold nestOf at hs;split at hs
        ·rename_i s0;split at hs
         ·rename_i t1 y1 r1 F V W hg0;simp only [X0, Xy] at hs;obtain ⟨rfl, rfl, rfl, rfl⟩ := hs;obtain ⟨vs, G, cs, bs, A, hno⟩ := hr;have hr : RE c env a.tmps w := ⟨vs, G, cs, bs, A, hno⟩;have hs0 : s0 < env.length := Yu hg0;have hrl : r1 < env.length := Y1g hq
          let S := SS env noP a.tmps vs w cs bs
          obtain ⟨B, cp, cells, b1, n1, n2, n3, n4⟩ := Y53 A hlv hq om;obtain ⟨pre, ch, post, x0, x1, x2, f1, f2, f3, f4, f5, f6⟩ := El.at2 V.toNat hin n3;have f5 : Rep (fun _ => False) w L .dp ch N[V.toNat] x1 := f5;obtain ⟨M, bA, bl, bB, g1, g2, g3, g4⟩ := Rep.leafAt L f5 hleaf;have hoo : W < L.sz := by
           have := (X6.1 g1).1;omega
          have O : w.cell? ⟨B, V.toNat * L.sz + W, none⟩ = some M := by
           refine Y6x n4 ?_;rw [f1, X7, Xe om, Xk om, f2, show V.toNat * L.sz + W - V.toNat * L.sz = W by omega];exact g1
          -- it is the row's header
          have hu1 : evT a.tmps (.tmp s0) = M := by
           have hav := A.av s0;have e1 : (SS env noP a.tmps vs w cs bs).env s0 = .con .val [⟨t1, y1, .bor r1 F [(V, W)]⟩] := by show ovl env noP s0 = _; rw [Y8 hs0]; exact hg0
           have e2 : (SS env noP a.tmps vs w cs bs).tm s0 = a.tmps.getD s0 undef := X3 (G ▸ hs0);rw [e1, e2] at hav;obtain ⟨⟨k1, _⟩, _, _, k4⟩ := hav;have := k4 0 _ (a.tmps.getD s0 undef) rfl (by rw [k1]; rfl);obtain ⟨_, _, _, k5⟩ := this;obtain ⟨ad, ⟨_, lf, u, ⟨o1', _, o3⟩, k6⟩, k7⟩ := k5 _ _ rfl;obtain ⟨e', t'', xs', m', B', n', cp', m1, m2, _, _, m5⟩ := k6.1 rfl;have o1' : (ovl env noP r1).leaf? F = some lf := o1';rw [Y8 hrl, hq, m1] at o1';simp only [X0, Leaf.mk.injEq, Ty.slice.injEq] at o1';obtain ⟨⟨rfl, rfl⟩, _, _⟩ := o1';have o3 : (cs r1)[F]? = some u := o3;rw [n1, m2] at o3;simp only [X0, Value.slice.injEq, X2o, and_true] at o3;obtain ⟨rfl, _, _⟩ := o3;have k7 : w.cell? ad = some (a.tmps.getD s0 undef) := k7;rw [m5, O] at k7;exact (Xs k7).symm
          -- the p itself
          obtain ⟨v0, cls, c0, c1, p1, p2, p3, p4⟩ := g3;obtain rfl : M = v0 := by simpa using p1
          obtain ⟨p4, p5⟩ := p4;have hc1 : c1 = [] := El.noB (fun c' x' b' h' => (Rep.flat (S' := fun _ => False) (w' := w) (m' := .ro) hf h').1) p3;rw [hc1, Xf, p4] at p2;have p3f : ∀ (w2 : World) (m2 : Lvl), El (Rep (fun _ => False) w2 te.ty m2) te.ty.sz cls p [] := fun w2 m2 => by refine El.bare ?_ p3; intro _ _ _ h'; exact (Rep.flat hf h').2
          -- what is appended
          obtain ⟨xcells, hxv⟩ := hr.val (some (.slice te.id te.ty)) x vs cs bs A;rw [hrd, Leaf.as_eq has] at hxv;obtain ⟨Sx, hxr⟩ : ∃ S, Rep S w (.slice te.id te.ty) .ro [evT a.tmps x] xs [] := Y2i hxv (by simpa using hl);obtain ⟨v', w', clx, q1, q2, q3, X, q5, q6, q7⟩ := Yc4 hT ht o.type p5 hxr g
          -- blocks
          have hnd : (B :: b1).Nodup := by rw [<- n2]; exact A.nodup r1 (F + 1)
          rw [f4] at hnd;have D : ∀ b ∈ B :: b1, c.base <= b /\ b < w.heap.size := fun b g => let q := A.own r1 (F + 1) b (by show b ∈ bs r1 (F + 1); rw [n2]; exact g); ⟨q.1.1, q.2⟩
          have Y : ∀ b, M.ownBlock = some b -> b ∈ bl := fun b g => by rw [p2]; exact Yl.2 g
          have U : ∀ b, M.ownBlock = some b -> b ∈ b1 := fun b g => by rw [f4, g2]; simp [Y b g]
          have hBne : M.ownBlock ≠ some B := fun g => (X1d.1 hnd).1 (by have := U B g; rw [f4] at this; exact this);have hrow' : Rep (fun _ => False) w' (.slice te.id te.ty) .dp [v'] (p ++ xs) v'.ownBlock.toList := by
           refine ⟨v', cls ++ clx, v'.ownBlock.toList, [], rfl, sm, ?_, rfl, by rw [Xh]; exact q2⟩;exact El.append (bs := []) (bs' := []) (p3f w' .dp) (by refine El.bare ?_ q3; intro _ _ _ h'; exact (Rep.flat hf h').2)
          let n : Leaf := ⟨.slice e L, N, .at_ lv⟩
          let env1 := syncPlace r1 F n env
          have E : env1.length = env.length := Y2m _ _ _ _;have hnoP : upd noP env.length AV.undef = noP := by funext k; unfold FP.upd; split <;> rfl
          -- the two ways
          have fin2 : ∀ (w1 : World) (bs' : Nat -> Nat -> List Nat) (own : List Nat), Rel c (SS env1 noP a.tmps vs w1 cs bs') -> (∀ k, (∀ q ∈ (ovl env1 noP k).refs, q.1 < env1.length) /\ (∀ q ∈ (ovl env1 noP k).ptrs, q < env1.length)) -> bs' r1 (F + 1) = B :: b1 ->
            Below w1.heap.size w1 w' -> w1.cell? ⟨B, V.toNat * L.sz + W, none⟩ = some M -> (∀ b ∈ own, w1.heap.size <= b /\ b < w'.heap.size) -> own.Nodup ->
            (own = v'.ownBlock.toList \/ (own = [] /\ M.ownBlock = v'.ownBlock)) -> o.wp P a w next Q := by
           intro w1 bs' own hrel1 hno1 Z hbel1 hcell1 hown1 hown2 hown3;have hq0 : ((SS env1 noP a.tmps vs w1 cs bs').env env.length).quiet = true := by show (ovl env1 noP env.length).quiet = true; rw [Yr om]; rfl
           have hres := hrel1.setNew hq0 hbel1 (.grow r1 F V W ⟨.slice te.id te.ty, p ++ xs, .at_ .dp⟩) v' [] (fun l => if l = 0 then own else [])
            (fun l b g => by
             split at g
             ·exact hown1 b g
             ·simp at g)
            (fun l l' b h1 h2 => by
             split at h1
             ·split at h2
              ·omega
              ·simp at h2
             ·simp at h1)
            (fun l => by split; exact hown2; exact X10)
            (by
             intro s' hkp hpl _;have eb : s'.bs env.length = fun l => if l = 0 then own else [] := Y0 _ _ _
             have ho1 : OwnPlace (SS env1 noP a.tmps vs w1 cs bs') r1 F n (.slice (some ⟨B, 0, none⟩) N.length cp) :=
              ⟨by show (ovl env1 noP r1).leaf? F = _; rw [Y8 om]; exact Y87 hq, Y6u hlv, n1⟩
             have hlt1 : ∀ b ∈ B :: b1, b < w1.heap.size := fun b g => (hrel1.own r1 (F + 1) b (by show b ∈ bs' r1 (F + 1); rw [Z]; exact g)).2;have hw1 : WrRel0 c (SS env1 noP a.tmps vs w1 cs bs') ⟨B, V.toNat * L.sz + W, none⟩ r1 F [] V W :=
              ⟨⟨.inr (by show B ∈ bs' r1 (F + 1); rw [Z]; simp), hlt1 B sm⟩, n, _, ho1, (fun _ => ⟨e, L, N, _, B, _, cp, rfl, rfl, hi.1, hin, rfl⟩), fun _ _ _ e => by cases e⟩
             have hsp := hpl r1 F _ _ ho1;obtain ⟨k1, k2⟩ := hw1.keep hkp hsp;refine ⟨fun k => by rw [eb]; exact X4 om, ⟨te.id, te.ty, rfl, hf⟩, hrow', _, M, k2, (X14 k1).trans hcell1, ?_⟩;rw [eb];rcases hown3 with h3 | ⟨h3, h4⟩
             ·exact .inl h3
             ·refine .inr ⟨h3, h4, fun b g => ?_⟩;have hbm : b ∈ B :: b1 := X2 _ (U b (h4.trans g));have hw2 : WrRel0 c (SS env1 noP a.tmps vs w1 cs bs') ⟨b, 0, none⟩ r1 F [(V, W), (0, 0), (0, 0)] 0 0 :=
               ⟨⟨.inr (by show b ∈ bs' r1 (F + 1); rw [Z]; exact hbm), hlt1 b hbm⟩, n, _, ho1, (fun h => by simp at h), fun _ _ _ h => by simp at h⟩
              exact (hw2.keep hkp hsp).2)
           have hRP : RP c env1 a.tmps w' (upd noP env.length (.grow r1 F V W ⟨.slice te.id te.ty, p ++ xs, .at_ .dp⟩)) (upd vs env.length v') := by
            refine ⟨by rw [E]; exact G, _, _, Rel.congr hres (Ya om _).symm (Yt om v').symm, fun k => ?_⟩;rw [Ya om];by_cases hk : k = env.length
            ·subst hk;rw [Y0];exact ⟨fun q hq' => by simp only [AV.refs, Xa] at hq'; rw [hq']; show r1 < env1.length; omega, by simp [AV.ptrs]⟩
            ·rw [Y1 _ _ hk]; exact hno1 k
           rw [<- E] at hRP;have hargs' : cl.args = #[.tmp s0, x] := by rw [<- X1e (xs := cl.args), hargs]
           have htys' : cl.argTypes = #[t, t] := by rw [<- X1e (xs := cl.argTypes), htys]
           refine fin hdst (v := v') (w' := w') ?_ (by rw [E]; exact hd) E hRP (by exact Y0 _ _ _) C hn;rw [<- hu1] at q1;simp [execOp, hop, resolve, hc, hargs', htys', invoke, builtin, Y5, q1]
          rcases q5 with hwh | hwh
          ·-- the p stays where it is
           have hbel : Below c.base w w' := ⟨X.os, X.tape, X.output, X.size, fun k hk => X.block k (by have := A.base; show k < w.heap.size; exact X1a hk this) (fun e => by
            have := (D k (X2 _ (U k e.symm))).1;omega)⟩
           have z : ∀ b, b < w.heap.size -> M.ownBlock ≠ some b -> w'.heap[b]? = w.heap[b]? := fun b g hne => X.block b g (fun e => hne e.symm);have I := (X1d.1 hnd).2;have hx0x2 : ∀ b ∈ x0 ++ x2, M.ownBlock ≠ some b := fun b g e => by
            have h1 : b ∈ x1 := by rw [g2]; simp [Y b e]
            rw [X7] at I;rcases X5.1 g with h | h
            ·exact (Xt.1 I).2.2 b h b (Xc _ h1) rfl
            ·exact (Xt.1 (Xt.1 I).2.1).2.2 b h1 b h rfl
           have hbAB : ∀ b ∈ bA ++ bB, M.ownBlock ≠ some b := fun b g e => by
            have h1 := Y b e;have h2 : (bA ++ bl ++ bB).Nodup := by
             rw [<- g2];rw [X7] at I;exact (Xt.1 (Xt.1 I).2.1).1
            rw [X7] at h2;rcases X5.1 g with h | h
            ·exact (Xt.1 h2).2.2 b h b (Xc _ h1) rfl
            ·exact (Xt.1 (Xt.1 h2).2.1).2.2 b h1 b h rfl
           have hlt : ∀ b ∈ x0 ++ x1 ++ x2, b < w.heap.size := fun b g => (D b (X2 _ (by rw [f4]; exact g))).2;obtain ⟨y, y1', y2⟩ := g4 (fun _ => False) w' M ⟨.slice te.id te.ty, p, .at_ .dp⟩ bl rfl (by
            rw [p2];exact ⟨M, cls, M.ownBlock.toList, [], rfl, sm, p3f w' .dp, rfl, q6⟩) (fun _ h => h.elim) (fun b g => z b (hlt b (by
             rw [g2];simp only [X5] at g ⊢;rcases g with h | h <;> simp [h])) (hbAB b g))
           have hy : y = N[V.toNat] := by
            have := Y3o L (l := ⟨.slice te.id te.ty, p, .at_ .dp⟩) hleaf rfl HEq.rfl;rw [this] at y1';exact (Xs y1').symm
           have hch : ch.set W M = ch := by
            apply X22;intro k;rw [List.getElem?_set];split
            ·rename_i hk;subst hk;split
             ·exact g1.symm
             ·omega
            ·rfl
           rw [hy, hch, <- g2] at y2;have hel' := f6 (Rep (fun _ => False) w' L .dp) (fun c' x' b' hb' h' => Rep.move (fun _ h => h.elim) (fun b g => z b (hlt b (by
            have := hb' b g;simp only [X5] at this ⊢;rcases this with h | h <;> simp [h])) (hx0x2 b (hb' b g))) h') ch N[V.toNat] x1 f3 y2
           rw [<- f1, <- f4, List.set_getElem_self] at hel';obtain ⟨bs', k1, k2, k3⟩ := RP.syncAt G A hno (m := env.length) (fun k _ => .inl rfl) (Xg _) hq hlv (y := N) n1 (bd := B :: b1) hbel (fun b g hb1 _ => z b g (fun e => hb1 (by rw [n2]; exact X2 _ (U b e))))
            (fun b g => ⟨X1a (D b g).2 X.size, .inr (.inl (by rw [n2]; exact g))⟩) (by rw [f4]; exact hnd)
            ⟨_, cells, [B], b1, rfl, rfl, hel', rfl, Y24 n4 (fun k hk => by
             have : B = k := by simpa [Value.ownBlock] using hk
             subst this;exact z B (D B sm).2 hBne)⟩
           rw [hnoP] at k1 k2;refine fin2 w' bs' [] k1 k2 k3 (X1f _ _) ((X14 (z B (D B sm).2 hBne)).trans O) sm X10 (.inr ⟨rfl, hwh.symm⟩)
          ·-- a new p
           have hold : ∀ b, b < w.heap.size -> w'.heap[b]? = w.heap[b]? := fun b g => by
            by_cases hk : M.ownBlock = some b
            ·exact q7 hwh b hk
            ·exact X.block b g (fun e => hk e.symm)
           have hvlt : w.heap.size < w'.heap.size := (Y1k q2 _ hwh).2;obtain ⟨bs', k1, k2, k3⟩ := RP.syncAt G A hno (m := env.length) (fun k _ => .inl rfl) (Xg _) hq hlv (y := N) (w' := w) n1 (bd := B :: b1) (X1f _ _) (fun b g hb1 _ => rfl)
            (fun b g => ⟨(D b g).2, .inr (.inl (by rw [n2]; exact g))⟩) (by rw [f4]; exact hnd)
            ⟨_, cells, [B], b1, rfl, rfl, n3, rfl, n4⟩
           rw [hnoP] at k1 k2;refine fin2 w bs' [w.heap.size] k1 k2 k3 ⟨X.os, X.tape, X.output, X.size, hold⟩ O (fun b g => by rw [Xa.1 g]; exact ⟨Xg _, hvlt⟩) sm (.inl (by rw [hwh]; rfl))
         ·simp at hs
        ·simp at hs
       ·simp at C
      ·simp at C
     ·simp at C
    ·simp at C
   ·simp at C
  ·simp at C
 ·simp at C
end
theorem Y37 : ∀ (t : Ty) {x y : t.D} {o : Nat} {l : Leaf}, updLeafD t x o l = some y -> ∃ q, leafD t x o = some q /\ l.t = q.1
 | .int k, x, y, o, l, h => by
  simp only [updLeafD] at h;split at h
  ·rename_i g;have := Leaf.as_eq h;exact ⟨⟨.int k, x⟩, by simp [leafD, g], by rw [this]⟩
  ·simp at h
 | .bool, x, y, o, l, h => by
  simp only [updLeafD] at h;split at h
  ·rename_i g;have := Leaf.as_eq h;exact ⟨⟨.bool, x⟩, by simp [leafD, g], by rw [this]⟩
  ·simp at h
 | .str, x, y, o, l, h => by
  simp only [updLeafD] at h;split at h
  ·rename_i g;have := Leaf.as_eq h;exact ⟨⟨.str, x⟩, by simp [leafD, g], by rw [this]⟩
  ·simp at h
 | .slice e t, x, y, o, l, h => by
  simp only [updLeafD] at h;split at h
  ·rename_i g;have := Leaf.as_eq h;exact ⟨⟨.slice e t, x⟩, by simp [leafD, g], by rw [this]⟩
  ·simp at h
 | .unit, x, y, o, l, h => by simp [updLeafD] at h
 | .pair a b, x, y, o, l, h => by
  simp [updLeafD] at h;split at h
  ·rename_i g;split at h
   ·rename_i z m;obtain ⟨q, i, j⟩ := Y37 a m;exact ⟨q, by simp [leafD]; rw [X3 g]; exact i, j⟩
   ·simp at h
  ·rename_i g;split at h
   ·rename_i z m;obtain ⟨q, i, j⟩ := Y37 b m;exact ⟨q, by simp [leafD]; rw [X4 g]; exact i, j⟩
   ·simp at h
theorem Yc6 {bs : List Nat} {l : Leaf} (g : l.t = .slice e t) (h : Rep S w l.t lv [v] l.x bs) : v.cells = #[v] := by
 obtain ⟨y, lx, q⟩ := l;subst g;obtain ⟨m, _, _, _, i, _, _, j⟩ := h;obtain ⟨A, p, b, _⟩ := RowRep.slice j;have : v = m := by simpa using i
 rw [this, b]; rfl
section
variable {P : Program} {o : Oper} {a : Act} {w : World} {R : Type} {K : Env -> Option R} {r0 : R} {next : Act -> World -> Prop} {Q : Exit -> Act -> World -> Prop} {c : Cx} {d : Nat} {T : Tab} {env : Env}
theorem Ya0 (hT : TabOk P T) {t : TypeId} {x v : Operand} {s r j oo : Nat} {i : Int} {l : Leaf} (hop : o.op = .store t x v) (hdst : o.dst = none) (hr : RE c env a.tmps w) (hg : growOf env v = some (s, r, j, i, oo, l)) (ht : T.ty t = some l.t)
  (U : storeGrow s r j i oo l x env K = some r0) (hn : Next c a K r0 env.length next) : o.wp P a w next Q := by
 unfold growOf at hg;split at hg
 ·rename_i C;split at hg
  ·rename_i r1 j1 i1 o1 l1 hgs;simp only [X0, Xy] at hg;obtain ⟨rfl, rfl, rfl, rfl, rfl, rfl⟩ := hg;unfold storeGrow at U;split at U
   ·rename_i le L V E I hx;split at U
    ·rename_i he;obtain ⟨rfl, rfl, rfl⟩ := he;split at U
     ·rename_i e O X lv hq;split at U
      ·rename_i hlv;have hi : E = i1 /\ 0 <= E /\ E < (X.length : Int) := by
        apply Xr;intro h';have : (decide (E = i1) && (decide (0 <= E) && decide (E < (X.length : Int)))) = false := by
         rw [X2l, X2l, X1h, X1h, X1h]; omega
        rw [this] at U; simp at U
       rw [X25 hi.1, X25 hi.2.1, X25 hi.2.2] at U;obtain ⟨rfl, hi0, hi1⟩ := hi;have hin : E.toNat < X.length :=om;have hgetD : X.getD E.toNat O.dflt = X[E.toNat] := by simp [hin]
       rw [hgetD] at U
       replace U : (match updLeafD O X[E.toNat] I l1 with
        | some y => K (syncPlace L V ⟨.slice e O, X.set E.toNat y, .at_ lv⟩ (put env C .undef))
        | none => none) = some r0 := U
       split at U
       ·rename_i y hy;obtain ⟨vs, M, cs, bs, z, hno⟩ := hr;have hr : RE c env a.tmps w := ⟨vs, M, cs, bs, z, hno⟩;have hsl : C < env.length := by
         apply Xr;intro hn';rw [Y18 env C (X1g hn')] at hgs;simp at hgs
        have hrl : L < env.length := Y1g hq;have hrs : L ≠ C := fun h => by subst h; rw [hgs] at hq; simp [AV.leaf?] at hq
        let N := env.length
        -- what grew
        have es : (SS env noP a.tmps vs w cs bs).env C = .grow L V E I l1 := by show ovl env noP C = _; rw [Y8 hsl]; exact hgs
        have et : (SS env noP a.tmps vs w cs bs).tm C = a.tmps.getD C undef := X3 (M ▸ hsl);have hgr := z.av C;rw [es, et] at hgr;obtain ⟨h1, ⟨e1, t1, hl1, hf⟩, hv, ad, u2, hwr, hcu, Z⟩ := hgr;have hcu : w.cell? ad = some u2 := hcu
        let F := a.tmps.getD C undef
        have hv : Rep (fun _ => False) w l1.t .dp [F] l1.x F.ownBlock.toList := hv;have Z : bs C 0 = F.ownBlock.toList \/ (bs C 0 = [] /\ u2.ownBlock = F.ownBlock /\ ∀ b, F.ownBlock = some b -> WrRel0 c (SS env noP a.tmps vs w cs bs) ⟨b, 0, none⟩ L V [(E, I), (0, 0), (0, 0)] 0 0) := Z;obtain ⟨B, cp, cells, b1, n1, n2, n3, n4⟩ := Y53 z hlv hq om
        -- both addresses are the one
        have spot : ∀ ad', WrRel0 c (SS env noP a.tmps vs w cs bs) ad' L V [] E I -> ad' = ⟨B, E.toNat * O.sz + I, none⟩ := by
         intro ad' hw;obtain ⟨_, lf, u, ⟨k1, _, k3⟩, k4⟩ := hw;obtain ⟨e', t'', xs', m', B', n', cp', m1, m2, _, _, m5⟩ := k4.1 rfl;have k1 : (ovl env noP L).leaf? V = some lf := k1;rw [Y8 hrl, hq, m1] at k1;simp only [X0, Leaf.mk.injEq, Ty.slice.injEq] at k1;obtain ⟨⟨rfl, rfl⟩, _, _⟩ := k1;have k3 : (cs L)[V]? = some u := k3;rw [n1, m2] at k3;simp only [X0, Value.slice.injEq, X2o, and_true] at k3;obtain ⟨rfl, _, _⟩ := k3;exact m5
        have hadd := spot ad hwr;subst hadd;have hxv : evT a.tmps x = .pointer (some ⟨B, E.toNat * O.sz + I, none⟩) := by
         obtain ⟨cells', hv'⟩ := Yj M z none x;rw [hx] at hv';obtain ⟨ad', ea, _, hw⟩ := hv';rw [ea, spot ad' hw]
        obtain ⟨pre, ch, post, x0, x1, x2, f1, f2, f3, f4, f5, f6⟩ := El.at2 E.toNat hin n3;have f5 : Rep (fun _ => False) w O .dp ch X[E.toNat] x1 := f5;obtain ⟨q, hleaf, hlq⟩ := Y37 O hy;obtain ⟨u1, bA, bl, bB, g1, g2, g3, g4⟩ := Rep.leafAt O f5 hleaf;have hoo : I < O.sz := by
         have := (X6.1 g1).1;omega
        have hcell : w.cell? ⟨B, E.toNat * O.sz + I, none⟩ = some u1 := by
         refine Y6x n4 ?_;rw [f1, X7, Xe om, Xk om, f2, show E.toNat * O.sz + I - E.toNat * O.sz = I by omega];exact g1
        have hu12 : u2 = u1 := by rw [hcell] at hcu; exact (Xs hcu).symm
        subst hu12
        -- the old row's blocks
        have hbl : bl = u2.ownBlock.toList := by
         obtain ⟨q1, q2⟩ := q;simp only at hlq;rw [hl1] at hlq;subst hlq;obtain ⟨v0, cls, c0, c1, p1, p2, p3, p4, _⟩ := g3;obtain rfl : u2 = v0 := by simpa using p1
         have hc1 : c1 = [] := El.noB (fun c' x' b' h' => (Rep.flat (S' := fun _ => False) (w' := w) (m' := .ro) hf h').1) p3;rw [p2, hc1, Xf, p4]
        -- blocks
        have hnd : (B :: b1).Nodup := by rw [<- n2]; exact z.nodup L (V + 1)
        have hmem : ∀ b ∈ B :: b1, c.base <= b /\ b < w.heap.size := fun b g => let q := z.own L (V + 1) b (by show b ∈ bs L (V + 1); rw [n2]; exact g); ⟨q.1.1, q.2⟩
        let A := F.ownBlock.toList
        have hbl'd : ∀ b ∈ A, (b ∈ bs C 0 /\ b ∉ B :: b1) \/ (A = bl) := by
         intro b g;rcases Z with h | ⟨_, h, _⟩
         ·left;have W : b ∈ bs C 0 := by rw [h]; exact g
          exact ⟨W, fun hm => hrs (z.disj L (V + 1) C 0 b (by show b ∈ bs L (V + 1); rw [n2]; exact hm) W).1⟩
         ·right; rw [hbl, h]
        have hblm : ∀ b ∈ bl, b ∈ b1 := fun b g => by rw [f4, g2]; simp [g]
        have hBbl' : B ∉ A := fun g => by
         rcases hbl'd B g with ⟨_, h⟩ | h
         ·exact h sm
         ·exact (X1d.1 hnd).1 (hblm B (by rw [<- h]; exact g))
        have hlt' : ∀ b ∈ A, b < w.heap.size := fun b g => Rep.lt hv b g
        let bd := B :: (x0 ++ (bA ++ A ++ bB) ++ x2)
        have hbdm : ∀ b ∈ bd, b ∈ B :: b1 \/ b ∈ bs C 0 := by
         intro b g;rcases Xm.1 g with rfl | g
         ·exact .inl sm
         ·rw [f4, g2];simp only [X5, Xm] at g ⊢;rcases g with (g | (g | g) | g) | g
          ·simp [g]
          ·simp [g]
          ·rcases hbl'd b g with ⟨h, _⟩ | h
           ·exact .inr h
           ·rw [h] at g; simp [g]
          ·simp [g]
          ·simp [g]
        have hbdnd : bd.Nodup := by
         rcases Z with h | ⟨_, h, _⟩
         ·have k1 : A.Nodup := by have := z.nodup C 0; have e : (SS env noP a.tmps vs w cs bs).bs C 0 = A := h; rw [<- e]; exact this
          have k2 : ∀ b ∈ A, b ∉ B :: b1 := fun b g hm => hrs (z.disj L (V + 1) C 0 b (by show b ∈ bs L (V + 1); rw [n2]; exact hm) (by show b ∈ bs C 0; rw [h]; exact g)).1;have hnd' : (B :: (x0 ++ (bA ++ bl ++ bB) ++ x2)).Nodup := by rw [<- g2, <- f4]; exact hnd
          have k3 : ∀ b ∈ A, b ≠ B /\ b ∉ x0 /\ b ∉ bA /\ b ∉ bB /\ b ∉ x2 := fun b g => by
           have := k2 b g;rw [f4, g2] at this;simp only [Xm, X5, X35] at this;exact ⟨this.1, this.2.1.1, this.2.1.2.1.1, this.2.1.2.2, this.2.2⟩
          have p0 : (A ++ (B :: (x0 ++ (bA ++ bB) ++ x2))).Nodup := by
           refine Xt.2 ⟨k1, hnd'.sublist ?_, fun b g b' W e => ?_⟩
           ·refine List.Sublist.cons_cons _ (X1x (X1x (X21 _) (X1x ?_ (X21 _))) (X21 _));exact List.sublist_append_left _ _
           ·subst e;obtain ⟨a1, a2, a3, a4, a5⟩ := k3 b g;simp only [Xm, X5] at W;rcases W with h | (h | h | h) | h
            ·exact a1 h
            ·exact a2 h
            ·exact a3 h
            ·exact a4 h
            ·exact a5 h
          refine (List.Perm.nodup_iff ?_).1 p0;show (A ++ B :: (x0 ++ (bA ++ bB) ++ x2)).Perm (B :: (x0 ++ (bA ++ A ++ bB) ++ x2));refine (List.perm_middle).trans (List.Perm.cons _ ?_);simp only [X7];refine (List.perm_append_comm_assoc _ _ _).trans (List.Perm.append_left _ ?_);exact List.perm_append_comm_assoc _ _ _
         ·have : A = bl := by rw [hbl, h]
          show (B :: (x0 ++ (bA ++ A ++ bB) ++ x2)).Nodup;rw [this, <- g2, <- f4];exact hnd
        -- the block
        obtain ⟨cur, hgB, hcm, hcs, htk, hnc⟩ : ∃ cur, w.heap[B]? = some (.cells cur e (0, 0)) /\ cp <= maxLen /\ cur.size = cp * O.sz /\ cur.toList.take (X.length * O.sz) = cells /\ X.length <= cp := by
         rcases n4.2 with ⟨h', _⟩ | ⟨g', cap', cur, h', _, hg, hnc, hcm, hcs, htk⟩
         ·simp at h'
         ·simp only [Value.slice.injEq, X0, X2o, and_true, true_and] at h';obtain ⟨rfl, rfl⟩ := h';exact ⟨cur, hg, hcm, hcs, htk, hnc⟩
        let off := E.toNat * O.sz + I
        let Y : Array Value := (cur.toList.take off ++ [F] ++ cur.toList.drop (off + 1)).toArray
        let w' := w.setRow B Y
        have G : ∀ b, b ≠ B -> w'.heap[b]? = w.heap[b]? := fun b g => setRow_other w B b _ g;have hsame : w'.heap[B]? = some (.cells Y e (0, 0)) := setRow_heap w B _ _ e (0, 0) hgB;have hsz : w'.heap.size = w.heap.size := setRow_size _ _ _;have hcl : cells.length = X.length * O.sz := n3.len;have hoffl : off + 1 <= cells.length := by
         rw [f1]; simp only [Xh, off]; omega
        have hoff : off + 1 <= cur.toList.length := by
         have : cells.length <= cur.toList.length := by rw [<- htk, Xj]; exact Nat.min_le_right _ _
         omega
        have hb1B : ∀ b ∈ b1, b ≠ B := fun b g e => (X1d.1 hnd).1 (e ▸ g);have hv' : Rep (fun _ => False) w' l1.t .dp [F] l1.x A := Rep.move (fun _ h => h.elim) (fun b g => G b (fun e => hBbl' (e ▸ g))) hv;obtain ⟨y', y1, y2⟩ := g4 (fun _ => False) w' F l1 A hlq hv' (fun _ h => h.elim) (fun b g => G b (hb1B b (by
         rw [f4, g2];simp only [X5] at g ⊢;rcases g with h | h <;> simp [h])))
        rw [hy] at y1;obtain rfl := Xs y1;have hel' := f6 (Rep (fun _ => False) w' O .dp) (fun c' x' b' W h' => Rep.move (fun _ h => h.elim) (fun b g => G b (hb1B b (by
         rw [f4];have := W b g;simp only [X5] at this ⊢;rcases this with h | h <;> simp [h]))) h') (ch.set I F) y (bA ++ A ++ bB) (by rw [X15]; exact f3) y2
        have hcells : pre ++ ch.set I F ++ post = cells.take off ++ [F] ++ cells.drop (off + 1) := by
         have hlt : I < ch.length :=om;rw [List.set_eq_take_append_cons_drop, X3 hlt];have := Y85 pre ch post [F] I (by simp; omega);simp only [X2c] at this;rw [show ch.take I ++ F :: ch.drop (I + 1) = ch.take I ++ [F] ++ ch.drop (I + 1) by simp, this, f1, f2]
        rw [hcells] at hel'
        -- C goes on its way
        have hq0 : ((SS env noP a.tmps vs w cs bs).env N).quiet = true := by show (ovl env noP N).quiet = true; rw [Yr (Xg _)]; rfl
        have hmv := z.move (s0 := C) (d := N) (X1c hsl) hq0 (fun p => by
         obtain ⟨k1, k2⟩ := (z.av p).refs_own;refine ⟨fun q hq' e => ?_, fun q hq' e => ?_⟩
         ·obtain ⟨lf, u, o1, _⟩ := k1 q hq';rw [e, es] at o1;simp [AV.leaf?] at o1
         ·obtain ⟨off, vv, e', ls, B', o1, _⟩ := k2 q hq';rw [e, es] at o1;simp at o1)
        rw [es, et] at hmv
        let env1 := put env C .undef
        have D : env1.length = env.length := Y6 _ _ _;have hrelP : Rel c (SS env1 (upd noP N (.grow L V E I l1)) a.tmps (upd vs N F) w (upd cs N (cs C)) (upd (upd bs C (fun _ => [])) N (bs C))) :=
         Rel.congr hmv (by rw [Ya (X3a D), Ys hsl]) (Yt (X3a M.symm) F).symm
        have hnoP1 : ∀ k, (∀ q ∈ (ovl env1 (upd noP N (.grow L V E I l1)) k).refs, q.1 < env1.length) /\ (∀ q ∈ (ovl env1 (upd noP N (.grow L V E I l1)) k).ptrs, q < env1.length) := by
         intro k;rw [Ya (X3a D), Ys hsl, D];by_cases hk : k = N
         ·subst hk;rw [Y0];exact ⟨fun q hq' => by simp only [AV.refs, Xa] at hq'; rw [hq']; exact hrl, by simp [AV.ptrs]⟩
         ·rw [Y1 _ _ hk];by_cases hk2 : k = C
          ·subst hk2; rw [Y0]; exact ⟨by simp [AV.refs], by simp [AV.ptrs]⟩
          ·rw [Y1 _ _ hk2]; exact hno k
        have hq1 : (get env1 L).leaf? V = some ⟨.slice e O, X, .at_ lv⟩ := by
         show (get (put env C .undef) L).leaf? V = _;rw [Y2r hsl, Y1 _ _ hrs]; exact hq
        have hrN : L ≠ N := X1c hrl;have ebr : upd (upd bs C (fun _ => [])) N (bs C) L = bs L := by rw [Y1 _ _ hrN, Y1 _ _ hrs]
        have ebN : upd (upd bs C (fun _ => [])) N (bs C) N = bs C := Y0 _ _ _;obtain ⟨bs', k1, k2, _⟩ := RP.syncAt (by rw [D]; exact M) hrelP hnoP1 (m := N) (fun k hk => .inl (by rw [Y1 _ _ hk]; rfl)) (X3a D) hq1 hlv (y := X.set E.toNat y) (w' := w') (u := .slice (some ⟨B, 0, none⟩) X.length cp) (by rw [Y1 _ _ hrN]; exact n1) (bd := bd)
         (below_setRow (X1f _ _) (hmem B sm).1 _) (fun b g hb1 _ => G b (fun e => hb1 (by rw [ebr, n2, e]; simp)))
         (fun b g => ⟨by
          rw [hsz];rcases hbdm b g with h | h
          ·exact (hmem b h).2
          ·exact (z.own C 0 b h).2, by
          rcases hbdm b g with h | h
          ·exact .inr (.inl (by rw [ebr, n2]; exact h))
          ·exact .inr (.inr ⟨0, by rw [ebN]; exact h⟩)⟩) hbdnd
         ⟨.slice (some ⟨B, 0, none⟩) X.length cp, cells.take off ++ [F] ++ cells.drop (off + 1), [B], x0 ++ (bA ++ A ++ bB) ++ x2, rfl, rfl, hel', rfl, by
          rw [X15];refine ⟨?_, .inr ⟨B, cp, Y, rfl, X2p _, hsame, hnc, hcm, ?_, ?_⟩⟩
          ·simp only [Xh, Xj, Xz, X2c]; omega
          ·rw [<- hcs];simp only [Y, X38, Xh, Xj, Xz, X2c, X12] at hoff ⊢;omega
          ·rw [<- htk];exact Y6w _ [F] _ _ (by rw [hcl] at hoffl; simpa using hoffl) (by rw [<- hcl, <- htk, Xj]; exact Nat.min_le_right _ _)⟩
        refine Y43 hdst (w' := w') ?_ (by rw [Y2m]; exact D) ⟨by rw [Y2m, D]; exact M, _, _, k1, k2⟩ (fun k => ?_) U hn
        ·have hsize := TabOk.sizeOf hT ht;rw [hl1] at hsize;have hv1 : F.oneCell' = true := Rep.one hv F sm;have hvc : F.cells = #[F] := Yc6 hl1 hv;have hst := run_storeCells_at P B off e [F] 0 cur w hgB (by simpa using hoff) (by simpa using hv1);rw [X2h] at hst;have hev : evT a.tmps (.tmp C) = F := rfl;simp [execOp, hop, Y5, hxv, hev, Instr.storeAt, Instr.sureAddr, storeVar, hsize, hvc, Ty.sz];rw [show Sem.run P (storeCells { block := B, off := E.toNat * O.sz + I } [F]) w = .ok () w' from hst];rfl
        ·by_cases hk : k = N
         ·subst hk; rw [Y0]
         ·rw [Y1 _ _ hk, Y1 _ _ hk]; rfl
       ·simp at U
      ·simp at U
     ·simp at U
    ·simp at U
   ·simp at U
  ·simp at hg
 ·simp at hg
end
abbrev Places := List (Nat × Nat × Leaf)
theorem Y20 (L : Places) (r : Nat) : ∀ (k : Nat) (ls : List Leaf) (l : Nat), (renewLs L r k ls)[l]? = (ls[l]?).map fun lf => (lookM L r (k + l)).getD lf
 | k, [], l => by simp [renewLs]
 | k, u :: ls, 0 => by simp [renewLs]
 | k, u :: ls, l + 1 => by simp [renewLs, Y20 L r (k + 1) ls l, X1y, Nat.add_comm 1 l]
theorem Y38 (L : Places) (r : Nat) : ∀ (k : Nat) (ls : List Leaf), (renewLs L r k ls).length = ls.length
 | k, [] => rfl
 | k, u :: ls => by simp [renewLs, Y38 L r (k + 1) ls]
theorem Y5o (L : Places) : ∀ (k : Nat) (env : Env) (r : Nat), get (renewEnv L k env) r = (get env r).renew L (k + r)
 | k, [], r => by simp [renewEnv, get, AV.renew]
 | k, u :: env, 0 => by simp [renewEnv, get]
 | k, u :: env, r + 1 => by simp [renewEnv, get, Y5o L (k + 1) env r, X1y, Nat.add_comm 1 r]
theorem Y4c (L : Places) : ∀ (k : Nat) (env : Env), (renewEnv L k env).length = env.length
 | k, [] => rfl
 | k, u :: env => by simp [renewEnv, Y4c L (k + 1) env]
theorem Y25 (L : Places) (env : Env) : (syncs L env).length = env.length := by unfold syncs; rw [Y4c, Y7]
theorem Yda (L : Places) (env : Env) (r : Nat) : get (syncs L env) r = ((get env r).chg (syncsG L)).renew L r := by unfold syncs; rw [Y5o, Y15, X13]
theorem Yc7 {L : Places} {r : Nat} (h : ∀ j, lookM L r j = none) (v : AV) : v.renew L r = v := by
 cases v with
 | con k ls =>
  simp only [AV.renew, AV.con.injEq, true_and];apply X22;intro l;rw [Y20, h];cases ls[l]? <;> rfl
 | _ => rfl
theorem Yb3 (L : Places) : Fewer (syncsG L) := fun r j p l => by
 simp [syncsG];split
 ·cases p with
  | nil => exact .inr rfl
  | cons a p => exact .inl rfl
 ·exact .inr rfl
theorem Yc8 {L : Places} (p : ∀ q j n, lookM L q j = some n -> ∃ lv, n.m = .at_ lv) (r : Nat) (v : AV) : (∀ z ∈ (v.renew L r).refs, z ∈ v.refs) /\ (∀ z ∈ (v.renew L r).ptrs, z ∈ v.ptrs) := by
 cases v with
 | con k ls =>
  refine ⟨fun z b => ?_, fun z b => b⟩;simp only [AV.renew, AV.refs, Xn] at b ⊢;obtain ⟨lf, g, b⟩ := b;obtain ⟨l, i⟩ := X11 g;rw [Y20] at i;obtain ⟨B, y, rfl⟩ := Xw.1 i;cases h : lookM L r (0 + l) with
  | none => grind
  | some n =>
   rw [h] at b;obtain ⟨lv, A⟩ := p _ _ _ h;obtain ⟨t, x, m⟩ := n;subst A;simp [Leaf.refs] at b
 | _ => exact ⟨fun z b => b, fun z b => b⟩
theorem RP.syncsAt (hlen : env.length = tmps.size) (F : Rel c (SS env noP tmps vs w cs bs)) (hno : ∀ r, (∀ q ∈ (ovl env noP r).refs, q.1 < env.length) /\ (∀ q ∈ (ovl env noP r).ptrs, q < env.length)) {L : Places} (hL : ∀ q j n, lookM L q j = some n -> ∃ x lv, (get env q).leaf? j = some ⟨n.t, x, .at_ lv⟩ /\ n.m = .at_ lv /\ lv.deep = true) (hbel : Below c.base w w')
  (U : ∀ b, b < w.heap.size -> (∀ q j n, lookM L q j = some n -> b ∉ bs q (j + 1)) -> w'.heap[b]? = w.heap[b]?)
  (bd : Nat -> Nat -> List Nat)
  (hbd1 : ∀ q j n, lookM L q j = some n -> ∀ b ∈ bd q j, b < w'.heap.size /\ (w.heap.size <= b \/ ∃ q' X n', lookM L q' X = some n' /\ b ∈ bs q' (X + 1)))
  (hbd2 : ∀ q j n, lookM L q j = some n -> (bd q j).Nodup)
  (hbd3 : ∀ q j n q' X n' b, lookM L q j = some n -> lookM L q' X = some n' -> b ∈ bd q j -> b ∈ bd q' X -> q = q' /\ j = X)
  (hrep : ∀ q j n u, lookM L q j = some n -> (cs q)[j]? = some u -> Rep (fun _ => False) w' n.t .dp [u] n.x (bd q j)) :
  RP c (syncs L env) tmps w' noP vs := by
 let g : Chg := syncsG L
 let s : St := SS env noP tmps vs w cs bs
 let bs' : Nat -> Nat -> List Nat := fun p l => match l with
  | 0 => bs p 0
  | j + 1 => match lookM L p j with | some _ => bd p j | none => bs p (j + 1)
 let E : Nat -> AV := fun p => ((ovl env noP p).chg g).renew L p
 let s' : St := ⟨E, ovlT tmps vs, w', cs, bs'⟩
 let D : Nat -> Prop := fun p => ∃ j n, lookM L p j = some n
 have eb0 : ∀ p, s'.bs p 0 = bs p 0 := fun p => rfl;have ebS : ∀ {p j n}, lookM L p j = some n -> s'.bs p (j + 1) = bd p j := fun {p j n} h => by show (match lookM L p j with | some _ => bd p j | none => bs p (j + 1)) = _; rw [h]
 have V : ∀ {p j}, lookM L p j = none -> s'.bs p (j + 1) = bs p (j + 1) := fun {p j} h => by show (match lookM L p j with | some _ => bd p j | none => bs p (j + 1)) = _; rw [h]
 have part : ∀ p l b, b ∈ s'.bs p l -> (b ∈ bs p l /\ ∀ j, l = j + 1 -> lookM L p j = none) \/ ∃ j n, l = j + 1 /\ lookM L p j = some n /\ b ∈ bd p j := by
  intro p l b G;cases l with
  | zero => exact .inl ⟨G, fun j h => om⟩
  | succ j =>
   cases C : lookM L p j with
   | none => rw [V C] at G; exact .inl ⟨G, fun X h => by rw [<- Nat.succ.inj h]; exact C⟩
   | some n => rw [ebS C] at G; exact .inr ⟨j, n, rfl, C, G⟩
 have hsame : ∀ p, ¬ D p -> s'.env p = (s.env p).chg g /\ s'.tm p = s.tm p /\ s'.cs p = s.cs p /\ s'.bs p = s.bs p := fun p hp => by
  have hn : ∀ j, lookM L p j = none := fun j => by
   cases C : lookM L p j with
   | none => rfl
   | some n => exact absurd ⟨j, n, C⟩ hp
  refine ⟨Yc7 hn _, rfl, rfl, ?_⟩;funext l;cases l with
  | zero => rfl
  | succ j => exact V (hn j)
 have hne : ∀ (p i b : Nat), lookM L p i = none -> b ∈ bs p (i + 1) -> w'.heap[b]? = w.heap[b]? := fun p i b C G =>
  U b (F.own _ _ _ G).2 (fun q j n hq Y => by
   obtain ⟨rfl, M⟩ := F.disj _ _ _ _ _ G Y;obtain rfl : i = j :=om;rw [C] at hq; simp at hq)
 have hne0 : ∀ (p b : Nat), b ∈ bs p 0 -> w'.heap[b]? = w.heap[b]? := fun p b G =>
  U b (F.own _ _ _ G).2 (fun q j n hq Y => by have := (F.disj _ _ _ _ _ G Y).2; omega)
 -- a root that is changed
 have hcon : ∀ p j n, lookM L p j = some n -> ∃ k I, get env p = .con k I /\ p < env.length := fun p j n C => by
  obtain ⟨x, lv, A, _, _⟩ := hL p j n C;cases W : get env p with
  | con k ls => exact ⟨k, ls, rfl, Yu W⟩
  | _ => rw [W] at A; simp [AV.leaf?] at A
 have N : ∀ {p k I}, ovl env noP p = .con k I -> s'.env p = .con k (renewLs L p 0 (chgs g I)) := fun {p k I} h => by
  show ((ovl env noP p).chg g).renew L p = _;rw [h]; rfl
 have hleafN : ∀ {p i lf}, lookM L p i = none -> (s.env p).leaf? i = some lf -> lf.m.own = true -> (s'.env p).leaf? i = some lf := fun {p i lf} C A M => by
  have A : (ovl env noP p).leaf? i = some lf := A;cases W : ovl env noP p with
  | con k ls =>
   rw [W] at A;rw [N W];have A : leafAt ls i = some lf := A;show leafAt _ i = _;rw [Y2, Y20, X13, C, <- Y2, Yk, A];simp [Y7g M]
  | _ => rw [W] at A; simp [AV.leaf?] at A
 have hstay : ∀ p i, lookM L p i = none -> SamePl s s' p i := fun p i C =>
  ⟨fun lf u ⟨o1, o2, o3⟩ => ⟨hleafN C o1 o2, o2, o3⟩, V C, fun b G => hne p i b C G⟩
 have hown : ∀ p i n u, lookM L p i = some n -> (cs p)[i]? = some u -> OwnPlace s' p i n u := fun p i n u C hu => by
  obtain ⟨x, lv, A, M, h3⟩ := hL p i n C;obtain ⟨k, I, W, hp⟩ := hcon p i n C;refine ⟨?_, by rw [M]; exact Y6u h3, hu⟩;rw [N (by rw [Y8 hp, W])];rw [W] at A;have A : leafAt I i = some _ := A;show leafAt _ i = _;rw [Y2, Y20, X13, C, <- Y2, Yk, A];rfl
 have hptr : ∀ p, SamePtr s s' p := fun p => ⟨rfl, fun e ls he => ⟨e, _, N he⟩⟩;have hgL : Keeps c s s' -> ChgLeaf c s s' g (fun _ _ => True) := by
  intro C u' t' x' p i pa _ Z;cases O : lookM L p i with
  | none =>
   have hf : g.f p i pa ⟨t', x', .bor p i pa⟩ = ⟨t', x', .bor p i pa⟩ := by simp [g, syncsG, O]
   rw [hf];exact ⟨rfl, Z.keep C (hstay p i O)⟩
  | some n =>
   cases pa with
   | nil =>
    have hf : g.f p i [] ⟨t', x', .bor p i []⟩ = ⟨n.t, n.x, .bor p i []⟩ := by simp [g, syncsG, O]
    rw [hf];refine ⟨rfl, ?_⟩;obtain ⟨_, ⟨lf', u2, ⟨o1, o2, o3⟩, h5⟩, _⟩ := Z;obtain ⟨mm, _, rfl⟩ := h5 rfl;refine ⟨?_, ⟨n, u2, hown p i n u2 O o3, fun _ => ⟨_, rfl, rfl⟩⟩, fun _ _ hp => by simp at hp⟩;refine Rep.move (fun b G _ => ⟨?_, rfl⟩) sm (Rep.ro (hrep p i n u2 O o3));rcases G with G | G
    ·exact absurd G id
    ·exact .inr (by rw [ebS O]; exact G)
   | cons z pa =>
    have hf : g.f p i (z :: pa) ⟨t', x', .bor p i (z :: pa)⟩ = Leaf.lost ⟨t', x', .bor p i (z :: pa)⟩ := by simp [g, syncsG, O]
    rw [hf];exact ⟨rfl, Rep.one Z.1 u' sm⟩
 have hgW : Keeps c s s' -> ChgWr c s s' g (fun _ _ => True) := by
  intro C a p i pa ii oo _ hw;show if (lookM L p i).isSome = true then _ else _
  cases O : lookM L p i with
  | some n => simp only [Option.isSome_some, X1q]; exact .inl rfl
  | none =>
   simp only [Option.isSome_none, Xo, X19];have := Y1b (L := fun p i => lookM L p i = none) C (fun p i hL => hstay p i hL) a p i pa ii oo O hw;simpa [noG] using this
 have hmain : Rel c s' := by
  refine Rel.step (s' := s') g F D (fun _ _ => True) (fun _ => True) hsame hbel
   (fun b G hD => U b G (fun q j n hq => hD q (j + 1) ⟨j, n, hq⟩)) (fun p l b hD G => ?_) (fun p1 l1 p2 l2 b hD hD' hb1 Y => ?_) (fun p l hD => ?_) (fun p _ => ⟨fun _ _ => trivial, fun _ _ => trivial⟩) (fun hkp => ⟨hgL hkp, hgW hkp, fun p hL _ => hptr p⟩) (fun hkp p hD => ?_)
  ·rcases part p l b G with ⟨A, _⟩ | ⟨j, n, rfl, A, M⟩
   ·exact ⟨X1a (F.own _ _ _ A).2 hbel.size, .inr ⟨p, l, hD, A⟩⟩
   ·obtain ⟨k1, k2⟩ := hbd1 p j n A b M;refine ⟨k1, ?_⟩;rcases k2 with k2 | ⟨q', X, n', k3, k4⟩
    ·exact .inl k2
    ·exact .inr ⟨q', X + 1, ⟨X, n', k3⟩, k4⟩
  ·have key : ∀ p l j n q, b ∈ bs p l -> (∀ i, l = i + 1 -> lookM L p i = none) -> lookM L q j = some n -> b ∈ bd q j -> False := by
    intro p l j n q A M h3 h4;rcases (hbd1 q j n h3 b h4).2 with k2 | ⟨q', X, n', k3, k4⟩
    ·have : b < w.heap.size := (F.own _ _ _ A).2;omega
    ·obtain ⟨rfl, h5⟩ := F.disj _ _ _ _ _ A k4;rw [M X h5] at k3; simp at k3
   rcases part p1 l1 b hb1 with ⟨A, h1'⟩ | ⟨j1, n1, rfl, A, h1'⟩ <;> rcases part p2 l2 b Y with ⟨M, h2'⟩ | ⟨j2, n2, rfl, M, h2'⟩
   ·exact F.disj _ _ _ _ _ A M
   ·exact (key _ _ _ _ _ A h1' M h2').elim
   ·exact (key _ _ _ _ _ M h2' A h1').elim
   ·obtain ⟨rfl, rfl⟩ := hbd3 _ _ _ _ _ _ _ A M h1' h2';exact ⟨rfl, rfl⟩
  ·cases l with
   | zero => exact F.nodup _ _
   | succ j =>
    cases C : lookM L p j with
    | none => rw [V C]; exact F.nodup _ _
    | some n => rw [ebS C]; exact hbd2 p j n C
  ·obtain ⟨j0, n0, hk0⟩ := hD;obtain ⟨k, I, W, hp⟩ := hcon p j0 n0 hk0;have hv' : ovl env noP p = .con k I := by rw [Y8 hp, W]
   have hav := F.av p;rw [show (SS env noP tmps vs w cs bs).env p = .con k I from hv'] at hav;obtain ⟨g1, g2, g3, g4⟩ := hav;rw [N hv'];refine ⟨?_, by rw [Y38, Yv]; exact g2, fun l hl' => ?_, fun l lf u' hl' hu' => ?_⟩
   ·rw [eb0];cases k with
    | val => exact g1
    | agg => exact g1
    | tup sh => exact g1
    | tupB i n sh =>
     obtain ⟨B, vs0, c0, c1, k1, k2, k3, k4, k5, k6⟩ := g1;have k5 : bs p 0 = [B] := k5;exact ⟨B, vs0, c0, c1, k1, k2, k3, (hne0 p B (by rw [k5]; simp)).trans k4, k5, k6⟩
    | box e =>
     obtain ⟨B, k1, k2, k3, k9⟩ := g1;have k3 : bs p 0 = [B] := k3;exact ⟨B, k1, (hne0 p B (by rw [k3]; simp)).trans k2, k3, k9⟩
   ·rw [Y38, Yv] at hl';cases C : lookM L p l with
    | none => rw [V C]; exact g3 l hl'
    | some n =>
     exfalso;obtain ⟨x, lv, A, _, _⟩ := hL p l n C;rw [W] at A;have A : leafAt I l = some _ := A;rw [Y2] at A;have := (X6.1 A).1;omega
   ·have hu' : (cs p)[l]? = some u' := hu';rw [Y2, Y20, X13, <- Y2, Yk] at hl';obtain ⟨lfg, hlg, rfl⟩ := Xw.1 hl';obtain ⟨lf0, hlf0, rfl⟩ := Xw.1 hlg;cases C : lookM L p l with
    | none =>
     exact (g4 l lf0 u' hlf0 hu').chg hkp (hgL hkp) (fun z hz => trivial) (V C) (fun b G => hne p l b C G)
    | some n =>
     obtain ⟨x, lv, A, M, h3⟩ := hL p l n C;rw [W] at A;have A : leafAt I l = some _ := A;rw [hlf0] at A;simp only [X0] at A;subst A;have hpin := (g4 l _ u' hlf0 hu').pin;have hr := hrep p l n u' C hu';obtain ⟨t, y, m⟩ := n;simp only at M hr;subst M;refine LeafRel.of_rep hpin ?_;rw [ebS C];exact (Rep.deep h3).2 (Rep.dpS hr)
 have eE : s'.env = ovl (syncs L env) noP := by
  funext p;by_cases hp : p < env.length
  ·rw [Y8 (by rw [Y25]; exact hp), Yda];show ((ovl env noP p).chg g).renew L p = _;rw [Y8 hp]
  ·rw [Yr (by rw [Y25]; omega)];show ((ovl env noP p).chg g).renew L p = _;rw [Yr om];rfl
 refine ⟨by rw [Y25]; exact hlen, cs, s'.bs, Rel.congr hmain eE rfl, fun p => ?_⟩;rw [<- eE, Y25];have A := Yc8 (L := L) (fun q j n C => let ⟨_, lv, _, h, _⟩ := hL q j n C; ⟨lv, h⟩) p ((ovl env noP p).chg g);have M := Yg (Yb3 L) (ovl env noP p);exact ⟨fun z hz => (hno p).1 z (M.1 z (A.1 z hz)), fun z hz => (hno p).2 z (M.2 z (A.2 z hz))⟩
theorem Y54 : ∀ {t : Ty}, t.flatB = true -> ∀ g ∈ flat t, g.flatB = true
 | .int k, _, g, h => by simp [flat] at h; subst h; rfl
 | .bool, _, g, h => by simp [flat] at h; subst h; rfl
 | .str, _, g, h => by simp [flat] at h; subst h; rfl
 | .slice _ _, hf, _, _ => by simp [Ty.flatB] at hf
 | .unit, _, g, h => by simp [flat] at h
 | .pair a b, hf, g, h => by
  simp [Ty.flatB] at hf;simp [flat] at h;rcases h with h | h
  ·exact Y54 hf.1 g h
  ·exact Y54 hf.2 g h
theorem Y39 : ∀ {rs : List (Ty × Lvl)} {xs : List (Σ t : Ty, t.D)} {sh : List (Bool × Nat)} {ls : List Leaf}, allFlat rs = true -> resLeaves rs xs = some (sh, ls) -> ∀ lf ∈ ls, lf.t.flatB = true
 | [], [], sh, ls, _, h, lf, b => by
  simp [resLeaves] at h;obtain ⟨rfl, rfl⟩ := h;simp at b
 | [], _ :: _, sh, ls, _, h, lf, b => by simp [resLeaves] at h
 | _ :: _, [], sh, ls, _, h, lf, b => by simp [resLeaves] at h
 | (t, fr) :: rs, x :: xs, sh, ls, ha, h, lf, b => by
  simp [allFlat] at ha;simp only [resLeaves] at h;split at h
  ·cases j : resLeaves rs xs with
   | none => rw [j] at h; simp at h
   | some q =>
    obtain ⟨m, l⟩ := q;rw [j] at h;simp at h;obtain ⟨rfl, rfl⟩ := h;rcases X5.1 b with b | b
    ·obtain ⟨g, i, rfl⟩ := X1b.1 b;have : g.t ∈ flat t := by rw [<- Y12 t _ (newMode fr) 0]; exact X1b.2 ⟨g, i, rfl⟩
     exact Y54 ha.1 _ this
    ·exact Y39 ha.2 j lf b
  ·simp at h
theorem Yc9 (h : allFlat rs = true) (b : resAV rs xs = some (.con k ls)) : ∀ lf ∈ ls, lf.t.flatB = true := by
 unfold resAV at b;cases g : resLeaves rs xs with
 | none => grind
 | some q =>
  obtain ⟨j, i⟩ := q;rw [g] at b;simp [mkCon] at b;split at b
  ·simp at b;rw [<- b.2]; exact Y39 h g
  ·simp at b;rw [<- b.2]; exact Y39 h g
theorem Y5p {lv m : Lvl} : ∀ (t : Ty) (x : t.D) (n : Nat), ∀ lf ∈ leaves t x (fun _ => .at_ lv) n, lf.t.flatB = false -> lf.m = .at_ m -> m = lv
 | .int k, x, n, lf, h, hf, hm => by simp [leaves] at h; rw [h] at hf; simp [Ty.flatB] at hf
 | .bool, x, n, lf, h, hf, hm => by simp [leaves] at h; rw [h] at hf; simp [Ty.flatB] at hf
 | .str, x, n, lf, h, hf, hm => by simp [leaves] at h; rw [h] at hf; simp [Ty.flatB] at hf
 | .slice e t, x, n, lf, h, hf, hm => by simp [leaves] at h; rw [h] at hm; simpa using hm.symm
 | .unit, x, n, lf, h, hf, hm => by simp [leaves] at h
 | .pair a b, x, n, lf, h, hf, hm => by
  simp [leaves] at h;rcases h with h | h
  ·exact Y5p a _ _ _ h hf hm
  ·exact Y5p b _ _ _ h hf hm
structure MutSet (env : Env) (ls ns : List Leaf) (L : Places) : Prop where
 len : ls.length = ns.length
 here : ∀ (i : Nat) (l n : Leaf), ls[i]? = some l -> ns[i]? = some n -> (l.t.flatB = true /\ l.m.live = true) \/ (l.t.flatB = false /\ ∃ (r j : Nat) (t0 : Ty) (x0 : t0.D) (lv : Lvl), l.m = .bor r j [] /\ (get env r).leaf? j = some ⟨t0, x0, .at_ lv⟩ /\ lv.deep = true /\ lookM L r j = some ⟨n.t, n.x, .at_ lv⟩)
 back : ∀ (r j : Nat) (m : Leaf), lookM L r j = some m -> ∃ (i : Nat) (l n : Leaf) (lv : Lvl) (t0 : Ty) (x0 : t0.D), ls[i]? = some l /\ ns[i]? = some n /\ l.t.flatB = false /\ l.m = .bor r j [] /\ m = ⟨n.t, n.x, .at_ lv⟩ /\ lv.deep = true /\ (get env r).leaf? j = some ⟨t0, x0, .at_ lv⟩
 uniq : ∀ (i i' : Nat) (l l' : Leaf) (r j : Nat), ls[i]? = some l -> ls[i']? = some l' -> l.t.flatB = false -> l'.t.flatB = false -> l.m = .bor r j [] -> l'.m = .bor r j [] -> i = i'
theorem Y6g : ∀ {ls ns : List Leaf} {L : Places}, mutSet env ls ns = some L -> MutSet env ls ns L
 | [], [], L, h => by
  simp [mutSet] at h;subst h;exact ⟨rfl, sm, fun r j m h => by simp [lookM] at h, sm⟩
 | [], _ :: _, L, h => by simp [mutSet] at h
 | _ :: _, [], L, h => by simp [mutSet] at h
 | l :: ls, n :: ns, L, h => by
  simp [mutSet] at h;split at h
  ·simp at h
  ·rename_i L0 X;obtain ⟨M, k2, N, k4⟩ := Y6g X;split at h
   ·rename_i B;split at h
    ·rename_i hlv;simp at h;subst h;refine ⟨by simp [M], fun i q U G I => ?_, fun r j m b => ?_, fun i i' l1 l2 r j F Y E W O m2 => ?_⟩
     ·cases i with
      | zero => grind
      | succ i => exact k2 i q U G I
     ·obtain ⟨i, h⟩ := N r j m b;exact ⟨i + 1, h⟩
     ·grind
    ·simp at h
   ·rename_i B;have B : l.t.flatB = false := by simpa using B
    split at h
    ·rename_i r0 p C;split at h
     ·rename_i t0 x0 lv D;split at h
      ·rename_i Z;obtain ⟨hd, g⟩ := Z;have g : lookM L0 r0 p = none :=gr;simp at h;subst h;have A : ∀ r j, ¬ (r = r0 /\ j = p) -> lookM ((r0, p, (⟨n.t, n.x, .at_ lv⟩ : Leaf)) :: L0) r j = lookM L0 r j := fun r j h => by simp only [lookM]; rw [X4 h]
       have y : lookM ((r0, p, (⟨n.t, n.x, .at_ lv⟩ : Leaf)) :: L0) r0 p = some ⟨n.t, n.x, .at_ lv⟩ := by simp [lookM]
       have V : ∀ (i : Nat) (q : Leaf), ls[i]? = some q -> q.t.flatB = false -> q.m ≠ .bor r0 p [] := fun i q F E O => gr;refine ⟨by simp [M], fun i q U G I => ?_, fun r j m b => ?_, fun i i' l1 l2 r j F Y E W O m2 => ?_⟩
       ·grind
       ·by_cases z : r = r0 /\ j = p
        ·obtain ⟨rfl, rfl⟩ := z;rw [y] at b;simp at b;subst b;exact ⟨0, l, n, lv, t0, x0, rfl, rfl, B, C, rfl, hd, D⟩
        ·rw [A r j z] at b;obtain ⟨i, h⟩ := N r j m b;exact ⟨i + 1, h⟩
       ·grind
      ·simp at h
     ·simp at h
    ·simp at h
def MutOk (c : Cx) (env : Env) (tmps : Array Value) (w : World) (vs : Nat -> Value) (bs : Nat -> Nat -> List Nat) (t : Ty) (cells : List Value) (ls : List Leaf) (x y : t.D) (L : Places) : Prop :=
 ∃ g : List Nat, Rep (fun _ => False) w t .dp cells x g /\ g.Nodup /\ (∀ b ∈ g, ∃ q ∈ ls.flatMap Leaf.refs, b ∈ bs q.1 (q.2 + 1)) /\
  ∀ (w' : World) (h : List Nat), Below c.base w w' -> (∀ b, b < w.heap.size -> b ∉ g -> w'.heap[b]? = w.heap[b]?) -> Rep (fun _ => False) w' t .dp cells y h -> h.Nodup -> (∀ b ∈ h, b ∈ g \/ w.heap.size <= b) -> RP c (syncs L env) tmps w' noP vs
section
variable {c : Cx} {env : Env} {tmps : Array Value} {w : World} {vs : Nat -> Value} {cs : Nat -> List Value} {bs : Nat -> Nat -> List Nat}
theorem Y88 {g : List (List Nat)} {l b : Nat} (h : b ∈ g.getD l []) : l < g.length :=gr
theorem Yex (hlen : env.length = tmps.size) (B : Rel c (SS env noP tmps vs w cs bs)) (hno : ∀ r, (∀ q ∈ (ovl env noP r).refs, q.1 < env.length) /\ (∀ q ∈ (ovl env noP r).ptrs, q < env.length)) {x y : t.D} {L : Places}
  (hv : ValC c (SS env noP tmps vs w cs bs) (.con k ls) v cells) (hty : typedAs ls t = true) (hx : asm t ls = some (x, [])) (hM : mutSet env ls (leaves t y (fun _ => .at_ .dp) 0) = some L) : MutOk c env tmps w vs bs t cells ls x y L := by
 obtain ⟨k1, k2, k3, k4⟩ := Y6g hM;obtain ⟨g1, g2, g3⟩ := hv;have X : ls.map Leaf.t = flat t := by simpa [typedAs] using hty
 -- a row's place
 have place : ∀ (i : Nat) (l : Leaf) (u : Value) (r j : Nat) (M : Ty) (U : M.D) (lv : Lvl), ls[i]? = some l -> cells[i]? = some u -> l.m = .bor r j [] -> (get env r).leaf? j = some ⟨M, U, .at_ lv⟩ -> lv.deep = true -> (cs r)[j]? = some u /\ M = l.t /\ Rep (fun _ => False) w l.t .dp [u] l.x (bs r (j + 1)) := by
  intro i l u r j M U lv hl hu hm hp hd;have h6 := g3 i l u (by rw [Y2]; exact hl) hu;obtain ⟨lt, lx, lm⟩ := l;simp only at hm;subst hm;obtain ⟨_, ⟨lf', u', ⟨o1, o2, o3⟩, h5⟩, _⟩ := h6;obtain ⟨mm, rfl, rfl⟩ := h5 rfl;have hrl : r < env.length := Y1g hp;have o1 : (ovl env noP r).leaf? j = some _ := o1;rw [Y8 hrl, hp] at o1;simp at o1;obtain ⟨rfl, hx0, rfl⟩ := o1;have hx0 : U = lx := eq_of_heq hx0;subst hx0;refine ⟨o3, rfl, ?_⟩;have Z := B.av r;rw [show (SS env noP tmps vs w cs bs).env r = get env r from Y8 hrl] at Z;cases hv : get env r with
  | con kk ls0 =>
   rw [hv] at Z hp;exact Rep.dpS ((Rep.deep hd).1 (Z.2.2.2 j _ _ hp o3).rep)
  | _ => rw [hv] at hp; simp [AV.leaf?] at hp
 let F : Nat -> List Nat := fun i => match ls[i]? with
  | some l => if l.t.flatB then [] else (match l.m with | .bor r j _ => bs r (j + 1) | _ => [])
  | none => []
 have hFi : ∀ {i : Nat} {l : Leaf}, ls[i]? = some l -> F i = if l.t.flatB then [] else (match l.m with | .bor r j _ => bs r (j + 1) | _ => []) := fun {i l} h => gr
 have hns : (leaves t y (fun _ => .at_ .dp) 0).length = ls.length := k1.symm;have hF : ∀ (i b : Nat), b ∈ F i -> ∃ (l : Leaf) (r j : Nat), ls[i]? = some l /\ l.t.flatB = false /\ l.m = .bor r j [] /\ b ∈ bs r (j + 1) :=gr;have hFb : ∀ {i : Nat} {l : Leaf} {r j : Nat}, ls[i]? = some l -> l.t.flatB = false -> l.m = .bor r j [] -> F i = bs r (j + 1) := fun {i l r j} A G h3 => gr;obtain ⟨c0, c1, e0, _, e2, e3, _⟩ := Y34 (S := fun _ => False) (w := w) (L := .dp) (F := F) t (k := 0) hx g2 (fun l lf u hl hu => by
  rw [X13];have hlt : l < (leaves t y (fun _ => .at_ .dp) 0).length :=gr;rcases k2 l lf _ hl (X1 hlt) with ⟨A, G⟩ | ⟨A, r, j, M, U, lv, m1, m2, m3, _⟩
  ·have h6 := (g3 l lf u (by rw [Y2]; exact hl) hu).rep (S := fun _ => True) G (fun _ _ => trivial) (fun _ _ _ _ => trivial);rw [hFi hl, A];exact (Rep.flat A h6).2
  ·grind)
 have hc1 : c1 = [] := Xq.1 (by rw [<- e2]; rfl);subst hc1;rw [Xf] at e0;subst e0;have hFnd : ∀ i, (F i).Nodup := fun i => by
  cases hl : ls[i]? with
  | none => grind
  | some l =>
   rw [hFi hl];split
   ·exact X10
   ·split
    ·exact B.nodup _ _
    ·exact X10
 have hFd : ∀ i i' b, b ∈ F i -> b ∈ F i' -> i = i' := fun i i' b A G => by
  obtain ⟨l, r, j, g, D, E, C⟩ := hF i b A;obtain ⟨l', r', j', Y, b2, b3, b4⟩ := hF i' b G;obtain ⟨rfl, hj⟩ := B.disj _ _ _ _ _ C b4;obtain rfl : j = j' :=om;exact k4 i i' l l' r j g Y D b2 E b3
 refine ⟨(List.range' 0 t.sz).flatMap F, e3, Y2b hFnd hFd _ _, fun b p => ?_, fun w' Y hbel hsame hrep' V W => ?_⟩
 ·simp at p;obtain ⟨i, _, p⟩ := p;obtain ⟨l, r, j, g, D, E, C⟩ := hF i b p;exact ⟨(r, j), Xn.2 ⟨l, X8 g, by simp [Leaf.refs, E]⟩, C⟩
 ·obtain ⟨n1, n2, bds, n3, n4, n5⟩ := Y2q .dp t 0 hrep';rw [n4] at V W;obtain ⟨d1, d2⟩ := Y14 V;have hb0 : ∀ b, b ∈ (List.range' 0 t.sz).flatMap F -> ∃ q' j' n', lookM L q' j' = some n' /\ b ∈ bs q' (j' + 1) := fun b p => gr;have hb0' : ∀ q j n, lookM L q j = some n -> ∀ b ∈ bs q (j + 1), b ∈ (List.range' 0 t.sz).flatMap F := fun q j n I b p => gr
  -- which leaf
  have idx : ∀ q j n, lookM L q j = some n -> ∃ (i : Nat), (∃ (l z : Leaf), ls[i]? = some l /\ (leaves t y (fun _ => .at_ .dp) 0)[i]? = some z /\ l.t.flatB = false /\ l.m = .bor q j [] /\ z.t = n.t /\ HEq z.x n.x) := fun q j n I => gr
  classical
  let bd : Nat -> Nat -> List Nat := fun q j => if h : ∃ (i : Nat) (l : Leaf), ls[i]? = some l /\ l.t.flatB = false /\ l.m = .bor q j [] then bds.getD (Classical.choose h) [] else []
  have N : ∀ {q j i : Nat} {l : Leaf}, ls[i]? = some l -> l.t.flatB = false -> l.m = .bor q j [] -> bd q j = bds.getD i [] := fun {q j i l} A G h3 => by
   have hex : ∃ (i : Nat) (l : Leaf), ls[i]? = some l /\ l.t.flatB = false /\ l.m = .bor q j [] := ⟨i, l, A, G, h3⟩;show (if h : _ then _ else _) = _;rw [dif_pos hex];obtain ⟨l', e1, e2, e3⟩ := Classical.choose_spec hex;rw [k4 _ _ _ _ _ _ e1 A e2 G e3 h3]
  have hLok : ∀ q j n, lookM L q j = some n -> ∃ x lv, (get env q).leaf? j = some ⟨n.t, x, .at_ lv⟩ /\ n.m = .at_ lv /\ lv.deep = true := fun q j n I => by
   obtain ⟨i, l, z, lv, M, U, g, D, E, C, a5, a6, a7⟩ := k3 q j n I;have O : i < cells.length := by rw [<- g2]; exact (X6.1 g).1
   obtain ⟨_, p2, _⟩ := place i l _ q j M U lv g (X1 O) C a7 a6;have htt : z.t = l.t := by
    have A : ((leaves t y (fun _ => .at_ .dp) 0).map Leaf.t)[i]? = some z.t := by rw [X16, D]; rfl
    have G : (ls.map Leaf.t)[i]? = some l.t := by rw [X16, g]; rfl
    rw [Y12, <- X, G] at A;exact (Xs A).symm
   subst a5;have e : z.t = M := by rw [htt, p2]
   exact ⟨e ▸ U, lv, by rw [a7]; cases e; rfl, rfl, a6⟩
  refine RP.syncsAt hlen B hno hLok hbel (fun b p hD => hsame b p (fun hb2 => ?_)) bd (fun q j n I b p => ?_) (fun q j n I => ?_) (fun q j n q' j' n' b I hk' p hb' => ?_) (fun q j n u I hu => ?_)
  ·grind
  ·obtain ⟨i, l, z, g, D, E, C, _⟩ := idx q j n I;rw [N g E C] at p;have hi := Y88 p;obtain ⟨m, _, hr⟩ := n5 i z (cells[i]' om) D (X1 om);refine ⟨Rep.lt hr b p, ?_⟩;rcases W b (Yf p) with h | h
   ·exact .inr (hb0 b h)
   ·exact .inl h
  ·grind
  ·obtain ⟨i, l, z, g, D, E, C, _⟩ := idx q j n I;obtain ⟨i', l', nn', Y, b2, b3, b4, _⟩ := idx q' j' n' hk';rw [N g E C] at p;rw [N Y b3 b4] at hb';have := d2 i i' b p hb';subst this;rw [g] at Y;simp at Y;subst Y;rw [C] at b4;simp at b4;exact b4
  ·obtain ⟨i, l, z, lv, M, U, g, D, E, C, a5, a6, a7⟩ := k3 q j n I;have O : i < cells.length := by rw [<- g2]; exact (X6.1 g).1
   obtain ⟨p1, p2, _⟩ := place i l _ q j M U lv g (X1 O) C a7 a6;rw [hu] at p1;obtain rfl := Xs p1;obtain ⟨m, hm, hr⟩ := n5 i z _ D (X1 O);rw [N g E C];subst a5;have hmode := Y1x t y 0 z (X8 D);have hnf : z.t.flatB = false := by
    have A : ((leaves t y (fun _ => .at_ .dp) 0).map Leaf.t)[i]? = some z.t := by rw [X16, D]; rfl
    have G : (ls.map Leaf.t)[i]? = some l.t := by rw [X16, g]; rfl
    rw [Y12, <- X, G] at A;rw [<- Xs A]; exact E
   have hmd : m = .dp := Y5p t y 0 z (X8 D) hnf hm;subst hmd;exact hr
end
section
variable {c : Cx} {env : Env} {tmps : Array Value} {w : World} {vs : Nat -> Value} {cs : Nat -> List Value} {bs : Nat -> Nat -> List Nat}
end
theorem Ydb {M : List t.D} {O : List Nat} {A : Addr} {n U : Nat} (h : Rep (fun _ => False) w (.slice e t) .dp [.slice (some A) n U] M O) {i j : Nat} (Z : i < n) {y : t.D} (hus : ls.length = us.length) (hne : ls ≠ [])
  (hru : ∀ (l : Nat) (lf : Leaf) (u : Value), ls[l]? = some lf -> us[l]? = some u -> Rep (fun _ => False) w lf.t .dp [u] lf.x []) (hu : updLeavesD t (M.getD i t.dflt) j ls = some y) (hnd : O.Nodup) :
  ∃ G cur, A = ⟨G, 0, none⟩ /\ G ∈ O /\ w.heap[G]? = some (.cells cur e (0, 0)) /\ i * t.sz + j + us.length <= cur.size /\ ∃ E, (∀ b ∈ E, b ∈ O) /\ E.Nodup /\
   ∀ w' : World, w'.heap[G]? = some (.cells (cur.toList.take (i * t.sz + j) ++ us ++ cur.toList.drop (i * t.sz + j + us.length)).toArray e (0, 0)) -> (∀ b ∈ O, b ≠ G -> w'.heap[b]? = w.heap[b]?) ->
    Rep (fun _ => False) w' (.slice e t) .dp [.slice (some A) n U] (M.set i y) E := by
 obtain ⟨v0, cells, b0, b1, e1, e2, X, F, hown1, hown⟩ := h;obtain rfl : v0 = .slice (some A) n U := by simpa using e1.symm
 rcases hown with ⟨N, _⟩ | ⟨G, cap', cur, N, _, hgB, hnc, hcm, hcs, L⟩
 ·simp at N
 simp only [Value.slice.injEq, X0] at N;obtain ⟨rfl, rfl, rfl⟩ := N;have F : b0 = [G] := by rw [F]; rfl
 subst F;have Y : M.getD i t.dflt = M[i] := by simp [Z]
 rw [Y] at hu;obtain ⟨pre, ch, post, x0, x1, x2, f1, f2, f3, f4, f5, f6⟩ := X.at_ i Z;have f5 : Rep _ w t .dp ch _ x1 := f5;obtain ⟨k0, b', k4, k5, k6⟩ := Y2g t ls us (fun _ => []) hus hru f5 hu;have k0 := k0 hne;have q := f6 (setCs ch j us) y _ (by rw [Y44]; exact f3) k4;have W : cells.length = M.length * t.sz := X.len;have hlen2 : cells.length <= cur.size := by
  have : cells.length <= cur.toList.length := by rw [<- L, Xj]; exact Nat.min_le_right _ _
  simpa using this
 have C : i * t.sz + j + us.length <= cells.length := by
  rw [f1]; simp only [Xh]; omega
 have m : pre ++ setCs ch j us ++ post = cells.take (i * t.sz + j) ++ us ++ cells.drop (i * t.sz + j + us.length) := by
  rw [Y6v _ _ _ om, f1, Y85 _ _ _ _ _ om, f2]
 rw [m] at q;subst f4;subst e2;have B : ([G] ++ (x0 ++ b' ++ x2)).Nodup := by
  have := k6 ([G] ++ x0) x2 (by simpa only [X7] using hnd) (fun l _ => X10) (fun l l' z _ _ h1 _ => by simp at h1) (fun l z _ hz => by simp at hz);simpa only [X7] using this
 have D : ∀ b ∈ x0 ++ b' ++ x2, b ∈ x0 ++ x1 ++ x2 := fun b g => by
  simp only [X5] at g ⊢;rcases g with (g | g) | g
  ·simp [g]
  ·rcases k5 b g with g | ⟨l, _, g⟩
   ·simp [g]
   ·simp at g
  ·simp [g]
 refine ⟨G, cur, rfl, sm, hgB, om, [G] ++ (x0 ++ b' ++ x2), fun b g => ?_, B, fun w' I p => ?_⟩
 ·rcases X5.1 g with g | g
  ·exact Xc _ g
  ·exact Xd _ (D b g)
 ·refine ⟨.slice (some ⟨G, 0, none⟩) M.length U, cells.take (i * t.sz + j) ++ us ++ cells.drop (i * t.sz + j + us.length), [G], _, rfl, rfl, ?_, rfl, ?_⟩
  ·refine El.imp (fun c' x' b2 V N => ?_) q;refine Rep.move (S := fun _ => False) (fun _ hf => absurd hf id) (fun b g => p b (Xd _ (D b (V b g))) (fun e => ?_)) N;subst e;exact (Xt.1 B).2.2 b sm b (V b g) rfl
  ·rw [X15];have hcurl : i * t.sz + j + us.length <= cur.toList.length := by
    have : cur.toList.length = cur.size := X12;omega
   refine ⟨?_, .inr ⟨G, U, _, rfl, X2p _, I, hnc, hcm, ?_, ?_⟩⟩
   ·simp only [Xh, Xj, Xz]; omega
   ·rw [<- hcs];have hcz : cur.toList.length = cur.size := X12;simp only [X38, Xh, Xj, Xz];omega
   ·rw [<- L];exact Y6w _ _ _ _ (by rw [W] at C; exact C) (by rw [<- W, <- L, Xj]; exact Nat.min_le_right _ _)
theorem Y7h (N : Rel c (SS env ps tmps vs w cs bs)) {r j : Nat} {te : Ty} {xs : List te.D} (hlv : lv.deep = true) (hq : (get env r).leaf? j = some ⟨.slice e te, xs, .at_ lv⟩) {B n0 cp0 : Nat} {uu : Value} (huu : (cs r)[j]? = some uu) (hB : uu = .slice (some ⟨B, 0, none⟩) n0 cp0) {i0 O : Nat} (hi0 : i0 < xs.length) {A : Addr} {n' cp' : Nat} (X : w.cell? ⟨B, i0 * te.sz + O, none⟩ = some (.slice (some A) n' cp')) {i oo : Nat} (hi : i < n') {e' : TypeId} {C : Ty} {ys : List C.D} (z : leafD te (xs.getD i0 te.dflt) O = some ⟨.slice e' C, ys⟩) {y : C.D} {x' : te.D} (hus : ls.length = us.length) (hne : ls ≠ []) (hru : ∀ (l : Nat) (lf : Leaf) (u : Value), ls[l]? = some lf -> us[l]? = some u -> Rep (fun _ => False) w lf.t .dp [u] lf.x [])
  (hu : updLeavesD C (ys.getD i C.dflt) oo ls = some y) (hx : updLeafD te (xs.getD i0 te.dflt) O ⟨.slice e' C, ys.set i y, .at_ .dp⟩ = some x') :
  ∃ G cur, A = ⟨G, 0, none⟩ /\ G ∈ bs r (j + 1) /\ w.heap[G]? = some (.cells cur e' (0, 0)) /\ i * C.sz + oo + us.length <= cur.size /\ ∃ bd, (∀ b ∈ bd, b ∈ bs r (j + 1)) /\ bd.Nodup /\
   ∀ w' : World, w'.heap[G]? = some (.cells (cur.toList.take (i * C.sz + oo) ++ us ++ cur.toList.drop (i * C.sz + oo + us.length)).toArray e' (0, 0)) -> (∀ b ∈ bs r (j + 1), b ≠ G -> w'.heap[b]? = w.heap[b]?) ->
    Rep (fun _ => False) w' (.slice e te) .dp [uu] (xs.set i0 x') bd := by
 subst hB;obtain ⟨B2, cp2, cells, b1, n1, n2, n3, n4⟩ := Y53 N hlv hq om;rw [huu] at n1;simp only [X0, Value.slice.injEq, X2o, and_true] at n1;obtain ⟨rfl, rfl, rfl⟩ := n1;have Y : xs.getD i0 te.dflt = xs[i0] := by simp [hi0]
 rw [Y] at hx z;obtain ⟨pre, ch, post, U, z1, V, f1, f2, f3, f4, f5, f6⟩ := El.at2 i0 hi0 n3;have f5 : Rep (fun _ => False) w te .dp ch xs[i0] z1 := f5;obtain ⟨u1, D, bl, E, h1, h2, h3, h4⟩ := Rep.leafAt te f5 z;have hoo : O < te.sz := by
  have := (X6.1 h1).1;omega
 have m : w.cell? ⟨B, i0 * te.sz + O, none⟩ = some u1 := by
  refine Y6x n4 ?_;rw [f1, X7, Xe om, Xk om, f2, show i0 * te.sz + O - i0 * te.sz = O by omega];exact h1
 rw [X] at m;obtain rfl := Xs m;have F : (B :: b1).Nodup := by rw [<- n2]; exact N.nodup r (j + 1)
 rw [f4, h2] at F;have W : bl.Nodup := F.sublist (by
  refine List.Sublist.trans ?_ (List.sublist_cons_self _ _);refine List.Sublist.trans ?_ (List.sublist_append_left _ _);refine List.Sublist.trans ?_ (List.sublist_append_right _ _);refine List.Sublist.trans ?_ (List.sublist_append_left _ _);exact List.sublist_append_right _ _)
 obtain ⟨G, cur, k1, k2, k3, k4, q, k5, k6, k7⟩ := Ydb h3 hi hus hne hru hu W;have I : ∀ b ∈ bl, b ∈ bs r (j + 1) := fun b g => by
  rw [n2, f4, h2];simp only [Xm, X5];simp [g]
 have L : ∀ b, b ∈ U ++ V \/ b ∈ D ++ E \/ b = B -> b ∉ bl := by
  intro b g hbl;have hc : List.count b (B :: (U ++ (D ++ bl ++ E) ++ V)) <= 1 := List.nodup_iff_count.1 F b;have h0 : 0 < List.count b bl := List.count_pos_iff.2 hbl;simp only [List.count_cons, List.count_append] at hc;rcases g with g | g | rfl
  ·rcases X5.1 g with h | h <;> · have := List.count_pos_iff.2 h; omega
  ·rcases X5.1 g with h | h <;> · have := List.count_pos_iff.2 h; omega
  ·simp at hc; omega
 refine ⟨G, cur, k1, I G k2, k3, k4, B :: (U ++ (D ++ q ++ E) ++ V), fun b g => ?_, ?_, fun w' hsame p => ?_⟩
 ·rw [n2, f4, h2];simp only [Xm, X5] at g ⊢;rcases g with h | (h | (h | h) | h) | h
  ·simp [h]
  ·simp [h]
  ·simp [h]
  ·simp [k5 b h]
  ·simp [h]
  ·simp [h]
 ·have h0 : (B :: (U ++ (D ++ E) ++ V)).Nodup := F.sublist (by
   refine List.Sublist.cons_cons _ (X1x (X1x (X21 _) ?_) (X21 _));rw [X7];exact X1x (X21 _) (List.sublist_append_right _ _))
  have Z : List.Perm (B :: (U ++ (D ++ q ++ E) ++ V)) (q ++ (B :: (U ++ (D ++ E) ++ V))) := by
   rw [List.perm_iff_count];intro a;simp only [List.count_cons, List.count_append];omega
  refine Z.nodup_iff.2 (Xt.2 ⟨k6, h0, fun a ha b g e => ?_⟩);subst e;refine L a ?_ (k5 a ha);simp only [Xm, X5] at g ⊢;rcases g with h | (h | h | h) | h <;> simp [h]
 ·have old : ∀ b, b ∈ U ++ V \/ b ∈ D ++ E \/ b = B -> w'.heap[b]? = w.heap[b]? := fun b g => p b (by
   rw [n2, f4, h2];simp only [Xm, X5] at g ⊢;rcases g with (h | h) | (h | h) | h <;> simp [h]) (fun e => L b g (e ▸ k2))
  have hrn := k7 w' hsame (fun b g hb1 => p b (I b g) hb1);obtain ⟨y2, q1, hup⟩ := h4 (fun _ => False) w' _ ⟨.slice e' C, ys.set i y, .at_ .dp⟩ q rfl hrn (fun _ h => h.elim) (fun b g => old b (.inr (.inl g)));rw [hx] at q1;obtain rfl := Xs q1;have hch : ch.set O (.slice (some A) n' cp') = ch := by
   apply X22;intro k;rw [List.getElem?_set];split
   ·rename_i hk;subst hk;split
    ·exact h1.symm
    ·omega
   ·rfl
  rw [hch] at hup;have M := f6 (Rep (fun _ => False) w' te .dp) (fun c' x' b' hb' h' => Rep.move (fun _ h => h.elim) (fun b g => old b (.inl (hb' b g))) h') ch x' (D ++ q ++ E) f3 hup;rw [<- f1] at M;refine ⟨_, cells, [B], U ++ (D ++ q ++ E) ++ V, rfl, rfl, M, rfl, ?_⟩;rw [X15];exact Y24 n4 (fun k hk => by
   have : B = k := by simpa [Value.ownBlock] using hk
   subst this;exact old B (.inr (.inr rfl)))
section
variable {P : Program} {o : Oper} {a : Act} {w : World} {R : Type} {K : Env -> Option R} {r : R} {next : Act -> World -> Prop} {Q : Exit -> Act -> World -> Prop} {c : Cx} {d : Nat} {T : Tab} {env : Env}
theorem Y99 (hT : TabOk P T) {t : TypeId} {x v : Operand} {env1 : Env} {q j o0 z oo : Nat} {i0 i1 i : Int} {le : List Leaf} (hop : o.op = .store t x v) (hdst : o.dst = none) (hr : RE c env a.tmps w) (ht : T.ty t = some τ) (hta : takeAs τ env v = some (env1, ls))
  (hx : rd none env1 x = .eptr le (some (q, j, [(i0, o0), (i1, z)], i, oo))) (C : storeNest q j i0 o0 i1 z i oo ls env1 K = some r) (hn : Next c a K r env.length next) : o.wp P a w next Q := by
 unfold storeNest at C;split at C
 case h_2 => simp at C
 rename_i e te xs lv hl;split at C
 case isFalse => simp at C
 rename_i hc;obtain ⟨hlv, M⟩ := hc;split at C
 case h_2 => simp at C
 rename_i e' t' ys F;split at C
 case isFalse => simp at C
 rename_i hz;obtain ⟨rfl, rfl⟩ := hz;split at C
 case h_2 => simp at C
 rename_i y hu;split at C
 case h_2 => simp at C
 rename_i x' hux;simp only [X9, X1n, List.isEmpty_eq_false_iff] at M;obtain ⟨hne, M⟩ := M;obtain ⟨hti, hty⟩ := Y1z hta;have hll := Y17 hty;obtain ⟨vs, h⟩ := hr;obtain ⟨hlen1, h1⟩ := Y16 h (fun r => .inl rfl) hti (Xg _) rfl;have W := Yz hti;have hs1 : ∀ r, Settled (upd noP env.length (.con τ.kind ls) r) := Settled.upd (fun r => .inl rfl) _ (.inr ⟨_, _, rfl, W⟩)
 let ps := upd noP env.length (.con τ.kind ls)
 let vs1 := upd vs env.length (evT a.tmps v)
 have hql : q < env1.length := Y1g hl;have hqm : q ≠ env.length :=om;have X : ∀ cs bs, Rel c (SS env1 ps a.tmps vs1 w cs bs) -> ∃ B n cp A n' L, (cs q)[j]? = some (.slice (some ⟨B, 0, none⟩) n cp) /\ i0.toNat < xs.length /\ w.cell? ⟨B, i0.toNat * te.sz + o0, none⟩ = some (.slice (some A) n' L) /\ i.toNat < n' /\ evT a.tmps x = .pointer (some (A.add (i.toNat * t'.sz + oo))) := by
  intro cs bs g;obtain ⟨cells, hv⟩ := Yj h1.len g none x;rw [hx] at hv;obtain ⟨ad, ea, _, _, lf, u, ⟨o1, o2, o3⟩, k⟩ := hv;obtain ⟨e2, t2, xs2, m', B, n, cp, A, n', L, k1, k2, k3, _, k4, k5, k6⟩ := k.2 _ _ _ rfl;have o1 : (ovl env1 ps q).leaf? j = some lf := o1;rw [Y8 hql, hl] at o1;simp only [X0] at o1;rw [<- o1] at k1;simp only [Leaf.mk.injEq, Ty.slice.injEq] at k1;obtain ⟨⟨rfl, rfl⟩, hxx, _⟩ := k1;obtain rfl := eq_of_heq hxx;subst k2;exact ⟨B, n, cp, A, n', L, o3, k3.2, k4, k5.2, by rw [ea, k6]⟩
 let us := (evT a.tmps v).cells.toList
 have I : ∀ cs bs, Rel c (SS env1 ps a.tmps vs1 w cs bs) -> ls.length = us.length /\ ∀ (l : Nat) (lf : Leaf) (u : Value), ls[l]? = some lf -> us[l]? = some u -> Rep (fun _ => False) w lf.t .dp [u] lf.x [] := by
  intro cs bs g;obtain ⟨m1, m2, m3, m4, m5⟩ := Y2l h1.len g (n := env.length) om (Y0 _ _ _) (Y1m τ) W;have ev : vs1 env.length = evT a.tmps v := Y0 _ _ _;rw [ev] at m1;refine ⟨by rw [m3, m1], fun l lf u hlf hu1 => ?_⟩;obtain ⟨lv, ⟨k1, _⟩, k2⟩ := m5 l lf u hlf (by rw [m1]; exact hu1);have V := Xb.1 M lf (X8 hlf);simp only [X9] at V;exact (Rep.flat (S' := fun _ => False) (w' := w) (m' := .dp) V.2 k2).2
 obtain ⟨cs0, bs0, p, _⟩ := h1.rel;obtain ⟨B, n, cp, A, n', L, c1, c2, c3, c4, c5⟩ := X cs0 bs0 p;obtain ⟨N, E⟩ := I cs0 bs0 p;have hone : ∀ u ∈ us, u.oneCell' = true := fun u hu => by
  obtain ⟨l, hlu⟩ := X11 hu;have hlt : l < ls.length := by rw [N]; exact (X6.1 hlu).1
  exact Rep.one (E l ls[l] u (X1 hlt) hlu) u sm
 obtain ⟨G, cur, g1, g2, Z, hfit, _⟩ := Y7h p hlv hl c1 rfl c2 c3 c4 F N hne E hu hux;subst g1
 let off := i.toNat * t'.sz + oo
 let U : Array Value := (cur.toList.take off ++ us ++ cur.toList.drop (off + us.length)).toArray
 let w' := w.setRow G U
 have D : ∀ b, b ≠ G -> w'.heap[b]? = w.heap[b]? := fun b Y => setRow_other w G b _ Y;have hsame : w'.heap[G]? = some (.cells U e' (0, 0)) := setRow_heap w G _ _ e' (0, 0) Z;have h2 := h1.sync (m := env.length) (fun r _ => hs1 r) om hl hlv (w' := w') (y := xs.set i0.toNat x') (fun cs bs g uu O => by
  obtain ⟨B', n2, cp2, A', n3, cp3, k1, k2, k3, k4, k5⟩ := X cs bs g;have O : (cs q)[j]? = some uu := O;obtain ⟨_, hru⟩ := I cs bs g;obtain ⟨G', cur2, j1, j2, j3, j4, bd, j5, j6, j7⟩ := Y7h g hlv hl k1 rfl k2 k3 k4 F N hne hru hu hux;subst j1;rw [c5] at k5;have hG : G = G' := by
   rw [Y1c, Y1c] at k5;simpa using k5
  subst hG;rw [Z] at j3;simp only [X0, Obj.cells.injEq, and_true] at j3;subst j3;rw [k1] at O;obtain rfl := Xs O;have hltG : G < w.heap.size := (g.own _ _ _ j2).2;have hsz : w'.heap.size = w.heap.size := setRow_size _ _ _;refine ⟨below_setRow (X1f _ _) (g.own _ _ _ j2).1.1 _, fun b Y hb1 _ => D b (fun e => hb1 (e ▸ j2)), bd, fun b Y => ?_, j6, j7 w' hsame (fun b _ Y => D b Y)⟩;rw [hsz];exact ⟨(g.own _ _ _ (j5 b Y)).2, .inr (.inl (j5 b Y))⟩)
 refine Y43 hdst (w' := w') ?_ (by unfold syncPlace; rw [Y6, Y7]; exact hlen1) h2 (fun r => ?_) C hn
 ·have hsize := TabOk.sizeOf hT ht;have hcs : (evT a.tmps v).cells.size = τ.sz := by rw [<- X12]; show us.length = _; rw [<- N, hll]
  have hst := run_storeCells_at P G off e' us 0 cur w Z (by simpa using hfit) hone;rw [X2h] at hst;have c5 : evT a.tmps x = .pointer (some ⟨G, off, none⟩) := by rw [c5, Y1c, X13]
  simp [execOp, hop, Y5, c5, Instr.storeAt, Instr.sureAddr, storeVar, hsize, hcs];rw [show Sem.run P (storeCells { block := G, off := off } (evT a.tmps v).cells.toList) w = .ok () w' from hst];rfl
 ·by_cases hr : r = env.length
  ·subst hr; rw [Y0]
  ·rw [Y1 _ _ hr]; show upd noP env.length _ r = _; rw [Y1 _ _ hr]; rfl
end
section
variable {P : Program} {o : Oper} {a : Act} {w : World} {R : Type} {K : Env -> Option R} {r : R} {next : Act -> World -> Prop} {Q : Exit -> Act -> World -> Prop} {c : Cx} {d : Nat} {T : Tab} {env : Env} {sig : FuncId -> Option Sig} {caps : FuncId -> List Ty} {orc : Orc}
theorem Yey (g : env.length = tmps.size) (i : Rel c (SS env noP tmps vs w cs bs)) (j : ∀ r, (∀ q ∈ (ovl env noP r).refs, q.1 < env.length) /\ (∀ q ∈ (ovl env noP r).ptrs, q < env.length)) {ls b : List Leaf} {x y : t.D} {L : Places}
  (p : ValC c (SS env noP tmps vs w cs bs) (.con k ls) v cells) (l : typedAs ls t = true) (h : argNow env ls = some b) (z : asm t b = some (x, [])) (m : mutOf env ls (leaves t y (fun _ => .at_ .dp) 0) = some L) : MutOk c env tmps w vs bs t cells ls x y L := by
 obtain rfl : b = ls := (Xs h).symm;exact Yex g i j p l z m
theorem Y7i {g : List (Nat × Nat)} {v : AV} (h : apart g v = true) : (∀ q ∈ v.refs, q ∉ g) /\ (∀ r ∈ v.ptrs, ∀ q ∈ g, r ≠ q.1) := by
 simp only [apart, X9, Xb, X1n, X2l, beq_eq_false_iff_ne] at h;refine ⟨fun q b i => ?_, fun r j q b => h.2 r j q b⟩;have := h.1 q b q i;rcases this with h | h <;> exact h rfl
theorem Ye6 (hO : OrcOk P sig orc) {cl : Call} {extra : List AV} {ex : List Value} (hop : o.op = .call cl) (hdst : o.dst = some d) (hr : RE c env a.tmps w) (hd : d < env.length)
  (hrun : Enterable P f -> (execOp a.eval o).run P w = .ok (.enter f (cl.args.map (evT a.tmps) ++ ex.toArray)) w) (hex : ∀ vs cs bs, Rel c (SS env noP a.tmps vs w cs bs) -> ValCs c (SS env noP a.tmps vs w cs bs) extra ex) (hsg : sig f = some sg) (hbx : sg.box = none /\ sg.newb = none) (hm : sg.muts = true) (how : sg.own = false) (i : callM caps orc (some d) f sg cl.args.toList extra env K = some r) (hn : Next c a K r env.length next) : o.wp P a w next Q := by
 unfold callM at i;split at i
 ·rename_i t ps a0 as hps has;split at i
  ·rename_i k ls hrd;simp only at i;split at i
   ·rename_i hc;obtain ⟨⟨hk, hty⟩, ⟨hl1, hl2⟩, hfl, hap⟩ := hc;cases D : argNow env ls with
    | none => grind
    | some ls' =>
     rw [D] at i;simp at i;split at i
     ·rename_i x hx;split at i
      ·simp at i
      ·rename_i rvs hrv;split at i
       ·simp at i
       ·rename_i q E;obtain ⟨z0, hres, i⟩ := Xx.1 i;obtain ⟨hent, j⟩ := hO f sg _ q z0 hsg E hres;rw [hbx.1, hbx.2, hm, how] at j;obtain ⟨t', x0, rest, y, ys, e1, e2, j⟩ := j;simp at e1;obtain ⟨⟨rfl, e1⟩, rfl⟩ := e1;subst e1;rw [e2] at i;simp [dif_pos] at i;split at i
        ·simp at i
        ·rename_i L hM;cases C : resAV sg.results ys with
         | none => grind
         | some av =>
          rw [C] at i;obtain ⟨vs, z, cs, bs, g, hno⟩ := hr;obtain ⟨cells, A⟩ := Yj z g (some t) a0;rw [hrd] at A;obtain ⟨b0, hrep, hnd, hin, B⟩ := Yey z g hno A hty D hx hM;have hval : evT a.tmps a0 = mkV t.isAgg cells := by
           obtain ⟨g1, _⟩ := A;subst hk;unfold Ty.kind at g1;split at g1
           ·rename_i ha;rw [ha]; exact g1.1
           ·rename_i ha;have ha : t.isAgg = false := by simpa using ha
            rw [ha, g1.1]; rfl
          generalize hvs : rdArgs env ps as ++ extra = avs at *;have F : as.length <= ps.length := by rw [<- hl1, hl2]; omega
          have Y : ValCs c (SS env noP a.tmps vs w cs bs) avs (as.map (evT a.tmps) ++ ex) := by
           rw [<- hvs];exact (Y2u z g F).1.append (hex vs cs bs g)
          let S : Nat -> Prop := fun b => RoS c (SS env noP a.tmps vs w cs bs) b \/ (∃ v ∈ avs, ∃ q ∈ v.refs, b ∈ bs q.1 (q.2 + 1)) \/ ∃ v ∈ avs, ∃ q ∈ v.ptrs, ∃ l, b ∈ bs q l
          have hrvr : RVRels S w rvs (as.map (evT a.tmps) ++ ex) :=
           Y4v g (fun b p => .inl p) Y hrv (fun v A q E b p => .inr (.inl ⟨v, A, q, E, p⟩)) (fun v A q E l b p => .inr (.inr ⟨v, A, q, E, l, p⟩))
          have hS : ∀ b, S b -> b ∉ b0 := by
           intro b p I;obtain ⟨q, E, M⟩ := hin b I;rcases p with p | ⟨v, A, q', U, p⟩ | ⟨v, A, q', U, l, p⟩
           ·exact p.1 _ _ M
           ·have := Y7i (Xb.1 hap v A);obtain ⟨h1, h2⟩ := g.disj _ _ _ _ _ p M;refine this.1 q' U ?_;have : q' = q := Prod.ext h1 om;rw [this]; exact E
           ·have := Y7i (Xb.1 hap v A);exact this.2 q' U q E (g.disj _ _ _ _ _ p M).1
          have I : ∀ b ∈ b0, c.base <= b := fun b p => let ⟨q, _, h⟩ := hin b p; (g.own _ _ _ h).1.1
          unfold Oper.wp;rw [hrun hent];have G : cl.args.map (evT a.tmps) ++ ex.toArray = (mkV t.isAgg cells :: (as.map (evT a.tmps) ++ ex)).toArray := by simp_all
          rw [G];refine X2w (j S w cells _ b0 c.base hrep hnd I g.base hrvr hS) ?_
          rintro e w' ⟨Z, bsx, b1, rfl, p, X, V, hnd1, hnew, W⟩
          rw [hdst];have hRP := B w' b1 p X V hnd1 hnew;obtain ⟨k', ls2, rfl, h1, h2, h3, bds, h4, h5, h6⟩ := Y5l W C;have N := Yc9 hfl C;have O := Y50 C;have hsl : (syncs L env).length = env.length := Y25 _ _;have hadd := hRP.addVal (n := (syncs L env).length) (Xg _) rfl (av := .con k' ls2) (v := resVal sg.results Z) (fun cs' bs' hrel' => by
           refine ⟨Z.flatten, h1.bare rfl, h2, fun l lf u hl hu => ?_⟩;rw [Y2] at hl;obtain ⟨m, hm', hr'⟩ := h6 l lf u hl hu;have hf := N lf (X8 hl);have hmd := O lf (X8 hl);obtain ⟨lt, lx, lm⟩ := lf;simp only at hm' hr';subst hm';exact ⟨(Rep.flat hf hr').2, by cases m <;> first | trivial | exact absurd rfl (hmd _)⟩) (by
           have := Yb (k := k') h3;rw [this.1, this.2];exact ⟨sm, sm⟩)
          have := RE.commit hadd (by rw [hsl]; exact hd);rw [Y0] at this;exact hn _ _ _ i this (by rw [Y1e, hsl]) rfl
     ·simp at i
   ·simp at i
  ·simp at i
 ·simp at i
end
theorem Y6h (b : env.length = tmps.size) (h : Rel c (SS env ps tmps vs w cs bs)) : ∀ {ptys : List PTy} {args : List Operand}, args.length <= ptys.length -> ValCs c (SS env ps tmps vs w cs bs) (rdArgs env ptys args) (args.map (evT tmps))
 | [], [], _ => rfl
 | p :: ptys, [], _ => rfl
 | [], x :: args, hl => by simp at hl
 | p :: ptys, x :: args, hl => ⟨_, _, rfl, Yj b h _ x, Y6h b h (ptys := ptys) (args := args) (by simpa using hl)⟩
section
variable {P : Program} {o : Oper} {a : Act} {w : World} {R : Type} {K : Env -> Option R} {r : R} {next : Act -> World -> Prop} {Q : Exit -> Act -> World -> Prop} {c : Cx} {d : Nat} {T : Tab} {env : Env} {sig : FuncId -> Option Sig} {caps : FuncId -> List Ty} {orc : Orc}
theorem RP.handed (j : env.length = tmps.size) (M : Rel c (SS env ps tmps vs w cs bs)) (L : ∀ r, (∀ q ∈ (ovl env ps r).refs, q.1 < env.length) /\ (∀ q ∈ (ovl env ps r).ptrs, q < env.length)) (G : env.length <= n) {x : t.D} (X : ps n = .con .val [⟨t, x, .at_ .dp⟩]) :
  Rep (fun _ => False) w t .dp [vs n] x (bs n 1) /\ ∀ (w' : World) (A : Value) (y : t.D) (B : List Nat), Below c.base w w' -> (∀ b, b < w.heap.size -> b ∉ bs n 1 -> w'.heap[b]? = w.heap[b]?) -> Rep (fun _ => False) w' t .dp [A] y B -> B.Nodup -> (∀ b ∈ B, b ∈ bs n 1 \/ w.heap.size <= b) ->
   RP c env tmps w' (upd ps n (.con .val [⟨t, y, .at_ .dp⟩])) (upd vs n A) := by
 obtain ⟨D, O, U⟩ := Y52 j M G X;refine ⟨Rep.dpS D, fun w' A y B N V i W E => ?_⟩;have e : upd (upd ps n .undef) n (.con .val [⟨t, y, .at_ .dp⟩]) = upd ps n (.con .val [⟨t, y, .at_ .dp⟩]) := by
  funext r; simp [upd]; split <;> rfl
 have := RP.reformAt j M L (n := n) (m := n) G G (av := .con .val [⟨t, y, .at_ .dp⟩]) (v := A) (w' := w') ⟨by simp [AV.refs, Leaf.refs], by simp [AV.ptrs]⟩ N (fun b g I => V b g (I 1)) [A] (fun l => if l = 1 then B else []) ?_ ?_ ?_ ?_
 ·grind
 ·intro l b g;by_cases C : l = 1
  ·subst C;rw [X3 rfl] at g;refine ⟨Rep.lt i b g, ?_⟩;rcases E b g with h | h
   ·grind
   ·exact .inl h
  ·grind
 ·grind
 ·grind
 ·intro s' Z;have p : s'.bs n = fun l => if l = 1 then B else [] := Y0 _ _ _
  have z : s'.cs n = [A] := Y0 _ _ _;refine ⟨⟨z, by rw [p]; rfl⟩, by rw [z]; rfl, fun l C => ?_, fun l lf u C Y => ?_⟩
  ·rw [p];simp at C;exact X4 om
  ·rw [z] at Y;have F : l = 0 :=gr;subst F;obtain rfl : lf = ⟨t, y, .at_ .dp⟩ := by simpa [leafAt] using C.symm
   obtain rfl : u = A :=gr;refine LeafRel.of_rep trivial ?_;rw [p];exact Rep.dpS i
theorem Ye7 (hO : OrcOk P sig orc) {F : Call} {extra : List AV} {ex : List Value} (hop : o.op = .call F) (O : o.dst = some d) (hr : RE c env a.tmps w) (hd : d < env.length)
  (hrun : Enterable P f -> (execOp a.eval o).run P w = .ok (.enter f (F.args.map (evT a.tmps) ++ ex.toArray)) w) (hex : ∀ vs cs bs, Rel c (SS env noP a.tmps vs w cs bs) -> ValCs c (SS env noP a.tmps vs w cs bs) extra ex) (hsg : sig f = some sg) (N : sg.box = none /\ sg.newb = none) (hm : sg.muts = true) (how : sg.own = true) (h : callO caps orc (some d) f sg F.args.toList extra env K = some r) (hn : Next c a K r env.length next) : o.wp P a w next Q := by
 unfold callO at h;split at h
 ·rename_i t ps a0 as hps has;split at h
  ·rename_i env2 l hg;split at h
   ·rename_i x hx;simp only at h;split at h
    ·rename_i hc;obtain ⟨⟨m, hlm, hagg⟩, ⟨hl1, hl2⟩, hap⟩ := hc;split at h
     ·simp at h
     ·rename_i rvs hrv;split at h
      ·simp at h
      ·rename_i q Z;obtain ⟨z0, hres, h⟩ := Xx.1 h;obtain ⟨U, i⟩ := hO f sg _ q z0 hsg Z hres;rw [N.1, N.2, hm, how] at i;obtain ⟨t', x0, rest, y, e1, e2, i⟩ := i;simp at e1;obtain ⟨⟨rfl, e1⟩, rfl⟩ := e1;subst e1;rw [e2] at h;simp at h;have m : extra = [] :=gr;subst m;obtain ⟨vs, G⟩ := hr;have V : ex = [] := by
        obtain ⟨_, cs, bs, g, _⟩ := G;exact hex vs cs bs g
       subst V;obtain ⟨hl, h1⟩ := Y8n G (fun _ => .inl rfl) hg (n := env.length) (Xg _) rfl;have W := Leaf.as_eq hx;rw [hlm] at W;rw [W] at h1;obtain ⟨p, cs, bs, g, hno⟩ := h1;obtain ⟨z, j⟩ := RP.handed p g hno (n := env.length) om (Y0 _ _ _);rw [Y0] at z;have hb0 : ∀ b ∈ bs env.length 1, c.base <= b := fun b L => (g.own _ _ _ L).1.1;have A : as.length <= ps.length :=om;have E := Y6h p g A;have I : ∀ v ∈ rdArgs env2 ps as, v.refs = [] /\ v.ptrs = [] :=gr;have hrvr : RVRels (RoS c (SS env2 (upd noP env.length (.con .val [⟨t, x, .at_ .dp⟩])) a.tmps (upd vs env.length (evT a.tmps a0)) w cs bs)) w rvs (as.map (evT a.tmps)) :=
        Y4v g (fun b L => L) E hrv (fun v hv q Z => by rw [(I v hv).1] at Z; simp at Z) (fun v hv q Z => gr)
       unfold Oper.wp;rw [hrun U];have B : F.args.map (evT a.tmps) ++ ([] : List Value).toArray = (evT a.tmps a0 :: as.map (evT a.tmps)).toArray := by
        rw [show evT a.tmps a0 :: as.map (evT a.tmps) = F.args.toList.map (evT a.tmps) by rw [has]; rfl];rw [<- X2z, X1e];simp
       rw [B];refine X2w (i _ w _ _ _ c.base z (g.nodup _ _) hb0 g.base hrvr (fun b L => L.1 _ _)) ?_
       rintro e w' ⟨v', b1, rfl, M, D, C, X, Y⟩
       rw [O];have h2 := j w' v' y b1 M D C X Y;have eu : upd (upd noP env.length (.con .val [⟨t, x, .at_ .dp⟩])) env.length (.con .val [⟨t, y, .at_ .dp⟩]) = upd noP env2.length (.con .val [⟨t, y, .at_ .dp⟩]) := by
        rw [hl]; funext r; simp [upd]; split <;> rfl
       rw [eu] at h2;have := RE.commit h2 (by rw [hl]; exact hd);rw [hl, Y0] at this;exact hn _ _ _ h this (by rw [Y1e, hl]) rfl
    ·simp at h
   ·simp at h
  ·simp at h
 ·simp at h
end
section
variable {P : Program} {o : Oper} {a : Act} {w : World} {R : Type} {K : Env -> Option R} {r : R} {next : Act -> World -> Prop} {Q : Exit -> Act -> World -> Prop} {c : Cx} {d : Nat} {T : Tab} {env : Env} {sig : FuncId -> Option Sig} {caps : FuncId -> List Ty} {orc : Orc}
theorem Ye8 (z : OrcOk P sig orc) {k : Nat} {b : Call} {extra : List AV} {ex : List Value} (p : o.op = .call b) (g : o.dst = some d) (D : RE c env a.tmps w) (A : d < env.length)
  (h : Enterable P f -> (execOp a.eval o).run P w = .ok (.enter f (b.args.map (evT a.tmps) ++ ex.toArray)) w) (l : ∀ vs cs bs, Rel c (SS env noP a.tmps vs w cs bs) -> ValCs c (SS env noP a.tmps vs w cs bs) extra ex) (y : sig f = some sg) (j : sg.box = none /\ sg.newb = none) (B : sg.muts = false) (q : sg.own = true) (m : sg.give = some k) (i : callG caps orc k (some d) f sg b.args.toList extra env K = some r) (C : Next c a K r env.length next) : o.wp P a w next Q := by simp [callG] at i
end
theorem Ya1 : ∀ {xs : List Int} {cells : List Value} {b : List Nat}, El (Rep S w (.int .u8) .ro) 1 cells xs b -> cells = xs.map (Value.int .u8)
 | [], cells, b, h => h.1
 | x :: xs, cells, b, ⟨c, cs, b0, b1, e, _, _, h1, h2⟩ => by
  rw [e, h1.1, Ya1 h2]; rfl
section
variable {P : Program} {o : Oper} {a : Act} {w : World} {R : Type} {K : Env -> Option R} {r : R} {next : Act -> World -> Prop} {Q : Exit -> Act -> World -> Prop} {c : Cx} {d : Nat} {T : Tab} {env : Env}
theorem Ye9 (hT : TabOk P T) {s i : TypeId} {b : ByteArray} (I : o.op = .convert s i x) (l : o.dst = some d) (V : RE c env a.tmps w) (hd : d < env.length) (g : bytesOf T s i (fun ty => rd ty env x) = some b)
  (Y : K (setD (some d) env (vStr b)) = some r) (hn : Next c a K r env.length next) : o.wp P a w next Q := by
 unfold bytesOf at g;split at g
 ·rename_i e hs ht;split at g
  ·rename_i he;split at g
   ·rename_i lx h;have h : rd (some (.slice e (.int .u8))) env x = .con .val [lx] := h;split at g
    ·rename_i xs C;split at g
     ·rename_i F;obtain rfl := Xs g;have L := V;obtain ⟨vs, N⟩ := L;obtain ⟨cs, bs, B, _⟩ := N.rel;obtain ⟨cells, W⟩ := Yj N.len B (some (.slice e (.int .u8))) x;rw [h] at W;obtain ⟨S, O⟩ := Y2i W F;rw [Leaf.as_eq C] at O;obtain ⟨v, ch, b0, b1, M, _, E, _, A, z, e2, hlc, hz, Z⟩ := O;have M : evT a.tmps x = v := by simpa using M
      have D := Ya1 E;refine finV V l (v := .string (strOfNums xs)) ?_ hd (fun vs cs bs _ => Y83 _ _ _) Y9k Y hn;have key : (Go.convert s i (.slice A xs.length z)).run P w = .ok (.string (strOfNums xs)) w := by
       have p := TabOk.slice hT hs;have m := TabOk.int hT he;have q := TabOk.str hT ht;cases A with
       | none =>
        have G : xs = [] := by simp_all
        subst G;exact run_convert_bytes_nil w s e p m 0 z i q
       | some A =>
        have F : (loadCells A xs.length).run P w = .ok (xs.map (Value.int .u8)).toArray w := by
         have := run_loadCells_list (P := P) w A (xs.map (Value.int .u8)) (fun j u U => by
          rw [<- D] at U;obtain ⟨a', B, _, X⟩ := Z j u U;cases B;exact X)
         simpa using this
        rw [run_convert_bytes_string w s i e _ _ z p m q, run_bytesToString w _ xs.length z xs F, foldl_push_bytes];simp [strOfNums, ByteArray.empty, ByteArray.emptyWithCapacity];rfl
      have y : (Go.convert s i (evT a.tmps x)).run P w = .ok (.string (strOfNums xs)) w :=gr;simp [execOp, I, Y5, y]
     ·simp at g
    ·simp at g
   ·simp at g
  ·simp at g
 ·simp at g
end
theorem Rel.split2 (h : Rel c s) {n m : Nat} (I : m ≠ n) (Z : ∀ r, (∀ q ∈ (s.env r).refs, q.1 ≠ n /\ q.1 ≠ m) /\ (∀ q ∈ (s.env r).ptrs, q ≠ n /\ q ≠ m)) (av B : AV) (v : Value) (cd G : List Value) (bd g : Nat -> List Nat)
  (k1 : ∀ l b, b ∈ bd l -> ∃ y, b ∈ s.bs m y) (k2 : ∀ l b, b ∈ g l -> ∃ y, b ∈ s.bs m y) (d1 : ∀ l y b, b ∈ bd l -> b ∈ bd y -> l = y) (d2 : ∀ l y b, b ∈ g l -> b ∈ g y -> l = y) (d3 : ∀ l y b, b ∈ bd l -> b ∉ g y) (n1 : ∀ l, (bd l).Nodup) (n2 : ∀ l, (g l).Nodup)
  (X : let s' : St := ⟨upd (upd s.env m B) n av, upd s.tm n v, s.w, upd (upd s.cs m G) n cd, upd (upd s.bs m g) n bd⟩; Keeps c s s' -> AVRel c s' n av v /\ AVRel c s' m B (s.tm m)) :
  Rel c ⟨upd (upd s.env m B) n av, upd s.tm n v, s.w, upd (upd s.cs m G) n cd, upd (upd s.bs m g) n bd⟩ := by
 let s' : St := ⟨upd (upd s.env m B) n av, upd s.tm n v, s.w, upd (upd s.cs m G) n cd, upd (upd s.bs m g) n bd⟩
 have z : ∀ r, ¬ (r = n \/ r = m) -> s'.env r = (s.env r).chg noG /\ s'.tm r = s.tm r /\ s'.cs r = s.cs r /\ s'.bs r = s.bs r := fun r F => by
  simp only [X35] at F;refine ⟨by rw [AV.chg_no]; show upd _ _ _ r = _; rw [Y1 _ _ F.1, Y1 _ _ F.2], Y1 _ _ F.1, ?_, ?_⟩ <;>
  ·show upd _ _ _ r = _;rw [Y1 _ _ F.1, Y1 _ _ F.2]
 have D : s'.bs n = bd := Y0 _ _ _;have C : s'.bs m = g := by show upd _ _ _ m = _; rw [Y1 _ _ I, Y0]
 have M : ∀ r j, r ≠ n /\ r ≠ m -> SamePl s s' r j := fun r j F => by
  have L := z r (by simp only [X35]; exact F);exact ⟨fun lf u ho => ho.chg L.1 L.2.2.1, by rw [L.2.2.2], fun b _ => rfl⟩
 have hpt : ∀ r, r ≠ n /\ r ≠ m -> SamePtr s s' r := fun r F => by
  have L := z r (by simp only [X35]; exact F);exact SamePtr.chg L.1 L.2.1
 have Y : ∀ r l b, (r = n \/ r = m) -> b ∈ s'.bs r l -> ∃ y, b ∈ s.bs m y := fun r l b E A => by
  rcases E with rfl | rfl
  ·rw [D] at A; exact k1 l b A
  ·rw [C] at A; exact k2 l b A
 refine Rel.step (s' := s') noG h (fun r => r = n \/ r = m) (fun r _ => r ≠ n /\ r ≠ m) (fun r => r ≠ n /\ r ≠ m) z (X1f _ _) (fun b hl E => rfl)
  (fun r l b E A => ?_) (fun r l r' y b E W i p => ?_) (fun r l E => ?_) (fun r _ => Z r) (fun O => ⟨Yw O M, Y1b O M, fun r hL _ => hpt r hL⟩) (fun O r E => ?_)
 ·obtain ⟨y, N⟩ := Y r l b E A;exact ⟨(h.own _ _ _ N).2, .inr ⟨m, y, .inr rfl, N⟩⟩
 ·rcases E with rfl | rfl <;> rcases W with rfl | rfl
  ·rw [D] at i p; exact ⟨rfl, d1 _ _ _ i p⟩
  ·rw [D] at i; rw [C] at p; exact absurd p (d3 _ _ _ i)
  ·rw [C] at i; rw [D] at p; exact absurd i (d3 _ _ _ p)
  ·rw [C] at i p; exact ⟨rfl, d2 _ _ _ i p⟩
 ·rcases E with rfl | rfl
  ·rw [D]; exact n1 l
  ·rw [C]; exact n2 l
 ·obtain ⟨N, h2⟩ := X O;rcases E with rfl | rfl
  ·have U : s'.env r = av := Y0 _ _ _;have V : s'.tm r = v := Y0 _ _ _;rw [U, V]; exact N
  ·have U : s'.env r = B := by show upd _ _ _ r = _; rw [Y1 _ _ I, Y0]
   have V : s'.tm r = s.tm r := Y1 _ _ I;rw [U, V]; exact h2
theorem Ydc (s : Nat) (b : ∀ l ∈ ls, l.m.bare = true) : chgs (killG s) ls = ls := by
 rw [Y30]
 conv => rhs; rw [<- List.map_id ls]
 refine List.map_congr_left (fun l g => ?_);have := b l g;obtain ⟨t, x, m⟩ := l;cases m with
 | bor _ _ _ => simp [Mode.bare] at this
 | _ => rfl
theorem Y4d (b : ∀ l ∈ ls, l.m.bare = true) : (AV.con k ls).refs = [] /\ (AV.con k ls).ptrs = [] := by
 refine ⟨?_, rfl⟩;simp only [AV.refs, List.flatMap_eq_nil_iff];intro l g;have := b l g;obtain ⟨t, x, m⟩ := l;cases m with
 | bor _ _ _ => simp [Mode.bare] at this
 | _ => rfl
section
variable {P : Program} {o : Oper} {a : Act} {w : World} {Q : Exit -> Act -> World -> Prop} {c : Cx} {d : Nat} {T : Tab} {env : Env}
theorem RP.splitB (h : RP c env tmps w noP vs) {s id C : Nat} {sh : List (Bool × Nat)} (hk : get env s = .con (.tupB id C sh) ls) (y : ∀ l ∈ ls, l.m.bare = true) (hro : ∀ l ∈ takeLs C ls, l.m = .at_ .ro) :
  ∃ (B : Nat) (us : List Value), tmps.getD s undef = .tuple (.pointer (some ⟨B, 0, none⟩) :: us).toArray /\
   RP c (put (killRoot s env) s (.con (.tup ((false, 1) :: sh)) (⟨.bool, false, .dead⟩ :: dropLs C ls))) tmps w (upd noP env.length (.con (.box ⟨id, false, []⟩) (takeLs C ls))) (upd vs env.length (.pointer (some ⟨B, 0, none⟩))) := by
 let N := env.length
 have L : s < env.length := Yu hk;have I : s ≠ N := X1c L;obtain ⟨hlen, cs, bs, hr, Y⟩ := h
 replace hr : Rel c (SS env noP tmps vs w cs bs) := hr
 obtain ⟨G, hk3⟩ := hr.killRoot_ s
 let E := chgE (killG s) (ovl env noP)
 have hEs : E s = .con (.tupB id C sh) ls := by show (ovl env noP s).chg _ = _; rw [Y8 L, hk]; show AV.con _ (chgs _ _) = _; rw [Ydc s y]
 have hav := G.av s;have e2 : ovlT tmps vs s = tmps.getD s undef := X3 (hlen ▸ L);simp only [show chgE (killG s) (ovl env noP) s = _ from hEs, e2] at hav;obtain ⟨⟨B, us, c0, c1, q1, q2, q3, q4, q5, q6⟩, g2, g3, g4⟩ := hav;have q2 : cs s = c0 ++ c1 := q2;have q4 : w.heap[B]? = _ := q4;have q5 : bs s 0 = [B] := q5;have g2 : ls.length = (cs s).length := g2;have g3 : ∀ l, ls.length <= l -> bs s (l + 1) = [] := g3;have g4 : ∀ l lf u, leafAt ls l = some lf -> (cs s)[l]? = some u -> LeafRel c ⟨E, ovlT tmps vs, w, cs, bs⟩ s l u lf := g4;have hll : ls.length = C + c1.length := by rw [g2, q2, Xh, q3]
 refine ⟨B, us, q1, ?_⟩
 let av : AV := .con (.box ⟨id, false, []⟩) (takeLs C ls)
 let j : AV := .con (.tup ((false, 1) :: sh)) (⟨.bool, false, .dead⟩ :: dropLs C ls)
 let bd : Nat -> List Nat := fun l => if l = 0 then [B] else []
 let g : Nat -> List Nat := fun l => if l <= 1 then [] else bs s (C + (l - 1))
 have X : ∀ l b, b ∈ bd l -> l = 0 /\ b = B := fun l b A => by
  simp only [bd] at A;split at A
  ·exact ⟨by assumption, by simpa using A⟩
  ·simp at A
 have D : ∀ l b, b ∈ g l -> 1 < l /\ b ∈ bs s (C + (l - 1)) := fun l b A => by
  simp only [g] at A;split at A
  ·simp at A
  ·exact ⟨om, A⟩
 have hLr : ∀ p, (∀ z ∈ (E p).refs, z.1 ≠ N /\ z.1 ≠ s) /\ (∀ z ∈ (E p).ptrs, z ≠ N /\ z ≠ s) := fun p =>
  ⟨fun z Z => ⟨by have U := (Y p).1 z ((Yg (Yy s) (ovl env noP p)).1 z Z); omega, (hk3 p).1 z Z⟩,
   fun z Z => ⟨by have U := (Y p).2 z ((Yg (Yy s) (ovl env noP p)).2 z Z); omega, (hk3 p).2 z Z⟩⟩
 have hsp := G.split2 (n := N) (m := s) I hLr av j (.pointer (some ⟨B, 0, none⟩)) c0 (.pointer (some ⟨B, 0, none⟩) :: c1) bd g
  (fun l b A => ⟨0, by obtain ⟨_, rfl⟩ := X l b A; show b ∈ bs s 0; rw [q5]; simp⟩) (fun l b A => ⟨_, (D l b A).2⟩)
  (fun l l' b U V => by have := (X l b U).1; have := (X l' b V).1; omega)
  (fun l l' b U V => by obtain ⟨m1, U⟩ := D l b U; obtain ⟨m2, V⟩ := D l' b V; have := (G.disj _ _ _ _ _ U V).2; omega)
  (fun l l' b U V => by
   obtain ⟨_, rfl⟩ := X l b U;obtain ⟨m2, V⟩ := D l' b V;have := (G.disj s 0 s _ b (by show b ∈ bs s 0; rw [q5]; simp) V).2;omega)
  (fun l => by simp only [bd]; split <;> simp) (fun l => by simp only [g]; split; exact X10; exact G.nodup _ _)
  (fun hkp => by
   have ebN : ∀ l, (upd (upd bs s g) N bd) N l = bd l := fun l => by rw [Y0]
   have O : ∀ l, (upd (upd bs s g) N bd) s l = g l := fun l => by rw [Y1 _ _ I, Y0]
   constructor
   ·refine ⟨⟨B, rfl, ?_, by simp only [Y0]; rfl, by simp [nthB]⟩, ?_, fun l i => ?_, fun l lf u i M => ?_⟩
    ·simp only [Y0]; exact q4
    ·simp only [Y0]; rw [Yo, Xj]; omega
    ·simp only [Y0]; exact X4 om
    ·simp only [Y0] at M;have hl' : ls[l]? = some lf := by
      rw [Y2, Yo, X1k] at i;split at i
      ·exact i
      ·simp at i
     have hm := hro lf (Ye i);have h6 := g4 l lf u (by rw [Y2]; exact hl') (by rw [q2, Xk (X6.1 M).1]; exact M);obtain ⟨t, x, m⟩ := lf;simp only at hm;subst hm;refine LeafRel.of_held rfl (by simp only [Y0]; exact X4 om) ?_;exact Rep.roS h6.2 (fun b A i => (hkp b A i).1) sm
   ·refine ⟨⟨?_, .pointer (some ⟨B, 0, none⟩) :: us, e2.trans q1, ?_⟩, ?_, fun l i => ?_, fun l lf u i M => ?_⟩
    ·exact O 0
    ·show TupCells _ _ ((upd (upd cs s (.pointer (some ⟨B, 0, none⟩) :: c1)) N c0) s);rw [Y1 _ _ I, Y0];exact ⟨_, us, [_], c1, rfl, rfl, rfl, ⟨rfl, rfl⟩, q6⟩
    ·show _ = ((upd (upd cs s (.pointer (some ⟨B, 0, none⟩) :: c1)) N c0) s).length;rw [Y1 _ _ I, Y0, X1u, X1u, Yp, Xz];omega
    ·show (upd (upd bs s g) N bd) s (l + 1) = [];rw [O];rw [X1u, Yp, Xz] at i;simp only [g];split
     ·rfl
     ·have := g3 (C + l - 1) om;rw [show C + (l + 1 - 1) = C + l - 1 + 1 by omega];exact this
    ·have M : ((upd (upd cs s (.pointer (some ⟨B, 0, none⟩) :: c1)) N c0) s)[l]? = some u := M;rw [Y1 _ _ I, Y0] at M;cases l with
     | zero =>
      obtain rfl : lf = ⟨.bool, false, .dead⟩ := by simpa [leafAt] using i.symm
      obtain rfl : u = _ := by simpa using M.symm
      exact ⟨O 1, rfl⟩
     | succ l =>
      rw [Y2, X1o, Yp, X1m] at i;rw [X1o] at M;have h6 := g4 (C + l) lf u (by rw [Y2]; exact i) (by rw [q2, Xe om, q3, Nat.add_sub_cancel_left]; exact M);have hb0 : (upd (upd bs s g) N bd) s (l + 1 + 1) = bs s (C + l + 1) := by
       rw [O]; simp only [g]; rw [X4 om]; congr 1
      have W := y lf (X8 i);obtain ⟨t, x, m⟩ := lf;cases m with
      | bor _ _ _ => simp [Mode.bare] at W
      | dead => exact ⟨hb0.trans h6.1, h6.2⟩
      | at_ lv =>
       refine LeafRel.of_rep h6.pin ?_;show Rep _ _ _ _ _ _ ((upd (upd bs s g) N bd) s (l + 1 + 1));rw [hb0];exact Rep.move (fun b A i => hkp b A i) (fun _ _ => rfl) h6.rep)
 have F : (put (killRoot s env) s j).length = env.length := by rw [Y6, Y9]
 have eE : upd (upd E s j) N av = ovl (put (killRoot s env) s j) (upd noP env.length av) := by
  rw [Ya (by rw [F]; exact Xg _), Ys (by rw [Y9]; exact L)];unfold killRoot;rw [Ys (by rw [Y7]; exact L), <- Y1v _ _ noP (fun _ => .inl rfl), Yc]
 refine ⟨by show (put (killRoot s env) s j).length = _; rw [F]; exact hlen, _, _, Rel.congr hsp eE (Yt om _).symm, fun p => ?_⟩;show (∀ q ∈ (ovl (put (killRoot s env) s j) (upd noP env.length av) p).refs, q.1 < (put (killRoot s env) s j).length) /\ ∀ q ∈ (ovl (put (killRoot s env) s j) (upd noP env.length av) p).ptrs, q < (put (killRoot s env) s j).length;rw [<- eE, F];have hb1 : ∀ l ∈ takeLs C ls, l.m.bare = true := fun l i => y l (by rw [Yo] at i; exact X2f i);have hb2 : ∀ l ∈ (⟨.bool, false, .dead⟩ : Leaf) :: dropLs C ls, l.m.bare = true := fun l i => by
  rcases Xm.1 i with rfl | i
  ·rfl
  ·rw [Yp] at i; exact y l (X2e i)
 by_cases hpN : p = N
 ·subst hpN;rw [Y0, (Y4d hb1).1, (Y4d hb1).2];exact ⟨sm, sm⟩
 ·rw [Y1 _ _ hpN];by_cases hps : p = s
  ·subst hps;rw [Y0, (Y4d hb2).1, (Y4d hb2).2];exact ⟨sm, sm⟩
  ·rw [Y1 _ _ hps];have := Yg (Yy s) (ovl env noP p);exact ⟨fun z Z => (Y p).1 z (this.1 z Z), fun z Z => (Y p).2 z (this.2 z Z)⟩
theorem Y7j (g : RE c env tmps w) : RE c (preTup o env) tmps w /\ (preTup o env).length = env.length := by
 unfold preTup;split
 ·rename_i s A q;split
  ·rename_i id n z ls p;split
   ·rename_i m;obtain ⟨j, i⟩ := m;obtain ⟨vs, h⟩ := g;obtain ⟨B, us, e, y⟩ := h.splitB p (fun l b => by simpa using Xb.1 j l b) (fun l b => by simpa using Xb.1 i l b);have b : (put (killRoot s env) s (.con (.tup ((false, 1) :: z)) (⟨.bool, false, .dead⟩ :: dropLs n ls))).length = env.length := by rw [Y6, Y9]
    have := RP.dropAt y (n := env.length) (by rw [b]; exact Xg _) (Yax (fun _ => .inl rfl) (.inr ⟨_, _, rfl, fun l b => by rw [show l.m = _ by simpa using Xb.1 i l b]; rfl⟩));rw [show upd (upd noP env.length (.con (.box ⟨id, false, []⟩) (takeLs n ls))) env.length .undef = noP by funext r; simp only [upd]; split <;> rfl] at this;exact ⟨⟨_, this⟩, b⟩
   ·exact ⟨g, rfl⟩
  ·exact ⟨g, rfl⟩
 ·exact ⟨g, rfl⟩
theorem Y9a (L : RE c env a.tmps w) (g : o.dst = some d) (G : d < env.length) {env' : Env} (h : tupStep o d env = some env')
  (I : ∀ i w', RE c env' i.tmps w' -> env'.length = env.length -> i.defers = a.defers -> next i w') : o.wp P a w next Q := by
 unfold tupStep at h;split at h
 ·rename_i s m;split at h
  ·rename_i id n F ls D;split at h
   ·rename_i A;simp only [X0] at h;have y : ∀ l ∈ ls, l.m.settled = true := fun l b => by simpa using Xb.1 A l b
    obtain ⟨vs, j⟩ := L;have E := j.grab (fun _ => .inl rfl) D y (n := env.length) (Xg _) rfl;have b : (killRoot s env).length = env.length := Y9 _ _;refine fin (K := some) (r := env') (w' := w) g (v := evT a.tmps (.tmp s)) (av := .con (.tupB id n F) ls) (by simp [execOp, m, Y5]) (by rw [b]; exact G) b (by rw [b]; exact E) (by rw [b, Y0]; rfl) (by rw [h]) (fun e i w' C p q z => by cases C; exact I i w' p q z)
   ·cases h
  ·cases h
 ·rename_i s m;split at h
  ·rename_i id n F ls D;split at h
   ·rename_i A;obtain ⟨p, q⟩ := A;simp only [X0] at h;obtain ⟨vs, j⟩ := L;obtain ⟨B, us, e, E⟩ := j.splitB D (fun l b => by simpa using Xb.1 p l b) (fun l b => by simpa using Xb.1 q l b);have M : evT a.tmps (.tmp s) = .tuple (.pointer (some ⟨B, 0, none⟩) :: us).toArray := e;have b : (put (killRoot s env) s (.con (.tup ((false, 1) :: F)) (⟨.bool, false, .dead⟩ :: dropLs n ls))).length = env.length := by rw [Y6, Y9]
    refine fin (K := some) (r := env') (w' := w) g (v := .pointer (some ⟨B, 0, none⟩)) (av := .con (.box ⟨id, false, []⟩) (takeLs n ls)) (by simp [execOp, m, Y5, M, Instr.extract]) (by rw [b]; exact G) b (by rw [b]; exact E) (by rw [b, Y0]) (by rw [h]) (fun e i w' C p q z => by cases C; exact I i w' p q z)
   ·cases h
  ·cases h
 ·cases h
end
theorem El.cutB {α : Type} {P : List Value -> α -> List Nat -> Prop} : ∀ {l : List α} {xs : List Value} {bs : List Nat} (i : Nat) (h : i < l.length), El P n xs l bs ->
  ∃ c q b g, c.length = n /\ (∀ (j : Nat) (u : Value), c[j]? = some u -> xs[i * n + j]? = some u) /\ bs = q ++ b ++ g /\ P c l[i] b /\ El P n (xs.drop ((i + 1) * n)) (l.drop (i + 1)) g
 | [], _, _, i, h, _ => by simp at h
 | x :: r, xs, bs, 0, h, ⟨c, xs', b, bs', e, l, eb, p, t⟩ => by
  refine ⟨c, [], b, bs', l, fun j u m => ?_, by simpa using eb, p, ?_⟩
  ·rw [e, Nat.zero_mul, X13, Xk (X6.1 m).1]; exact m
  ·have : (c ++ xs').drop n = xs' := by rw [<- l]; simp
   rw [e, X13, Nat.one_mul, this]; exact t
 | x :: r, xs, bs, i + 1, h, ⟨c, xs', b, bs', e, l, eb, p, t⟩ => by
  obtain ⟨z, q, g, y, A, B, C, D, E⟩ := El.cutB i (by simpa using h) t;refine ⟨z, b ++ q, g, y, A, fun j u m => ?_, by rw [eb, C]; simp [X7], D, ?_⟩
  ·have := B j u m;rw [e, Xe (by rw [l, X1r]; omega), l, X1r]
   rwa [show i * n + 1 * n + j - n = i * n + j by omega]
  ·have F : (i + 1 + 1) * n = c.length + (i + 1) * n := by rw [l, X1r (i + 1)]; omega
   have G : (c ++ xs').drop ((i + 1 + 1) * n) = xs'.drop ((i + 1) * n) := by rw [F]; simp
   rw [e, G];exact E
theorem Yca (t : Ty) : ∀ (x : t.D) (n : Nat), ∀ lf ∈ leaves t x (fun _ => .at_ .dp) n, lf.m = .at_ .dp \/ lf.m = .at_ .ro := by
 induction t with
 | pair a b g i => intro x n lf h; simp only [leaves, X5] at h; exact h.elim (g _ _ _) (i _ _ _)
 | unit => intro x n lf h; simp [leaves] at h
 | slice e t _ => intro x n lf h; simp only [leaves, Xa] at h; rw [h]; exact .inl rfl
 | _ => intro x n lf h; simp only [leaves, Xa] at h; rw [h]; exact .inr rfl
theorem El.nodup_parts {j b g : List Nat} (h : (j ++ b ++ g).Nodup) : b.Nodup /\ g.Nodup /\ ∀ k ∈ b, k ∉ g := by
 obtain ⟨l, m, p⟩ := Xt.1 h;obtain ⟨_, q, _⟩ := Xt.1 l;exact ⟨q, m, fun k y i => p k (Xd _ y) k i rfl⟩
theorem Y3a : ∀ (env : Env) (d : Nat) (u v : AV), put (put env d u) d v = put env d v
 | [], _, _, _ => rfl
 | _ :: _, 0, _, _ => rfl
 | x :: env, d + 1, u, v => by simp [put, Y3a env d u v]
section
variable {P : Program} {o : Oper} {a : Act} {w : World} {Q : Exit -> Act -> World -> Prop} {c : Cx} {d : Nat} {T : Tab} {env : Env} {caps : FuncId -> List Ty}
theorem RP.toPart (h : RP c env tmps w noP vs) {s : Nat} {x : List t.D} (N : get env s = .con .val [⟨.slice e t, x, .at_ .dp⟩]) : RP c (put (killRoot s env) s (.part e t x 0)) tmps w noP vs := by
 have hsl : s < env.length := Yu N;obtain ⟨W, cs, bs, hr, Y⟩ := h
 replace hr : Rel c (SS env noP tmps vs w cs bs) := hr
 obtain ⟨i, B⟩ := hr.killRoot_ s
 let E := chgE (killG s) (ovl env noP)
 have hEs : E s = .con .val [⟨.slice e t, x, .at_ .dp⟩] := by show (ovl env noP s).chg _ = _; rw [Y8 hsl, N]; rfl
 have V := i.av s;simp only [show chgE (killG s) (ovl env noP) s = _ from hEs] at V;obtain ⟨⟨q1, q2⟩, _, _, g4⟩ := V;have q1 : cs s = [ovlT tmps vs s] := q1;have h6 := g4 0 _ (ovlT tmps vs s) rfl (by show (cs s)[0]? = _; rw [q1]; rfl);have hrep : Rep (RoS c ⟨E, ovlT tmps vs, w, cs, bs⟩) w (.slice e t) .dp [ovlT tmps vs s] x (bs s 1) := h6.1;have C := i.nodup s 1;have C : (bs s 1).Nodup := C;obtain ⟨v, xs, b0, U, e1, e2, hel, eb0, Z⟩ := hrep;have e1 : ovlT tmps vs s = v := by simpa using e1
 rw [e2] at C;obtain ⟨_, X, hdj⟩ := Xt.1 C;have hob : ∀ k, v.ownBlock = some k -> k ∈ bs s 1 /\ k ∉ U := fun k N => by
  have : k ∈ b0 := by rw [eb0]; exact Yl.2 N
  exact ⟨by rw [e2]; exact Xc _ this, fun y => hdj k this k y rfl⟩
 let bd : Nat -> List Nat := fun l => if l = 0 then U else []
 have A : ∀ l b, b ∈ bd l -> l = 0 /\ b ∈ U := fun l b D => by
  simp only [bd] at D;split at D
  ·exact ⟨by assumption, D⟩
  ·simp at D
 have hre := i.reform (n := s) (m := s) (w' := w) (fun r => ⟨fun q hq => ⟨(B r).1 q hq, (B r).1 q hq⟩, fun q hq => ⟨(B r).2 q hq, (B r).2 q hq⟩⟩) (X1f _ _) (fun _ _ _ => rfl) (.part e t x 0) (ovlT tmps vs s) [] bd
  (fun l b D => by
   obtain ⟨_, D⟩ := A l b D;have y : b ∈ bs s 1 := by rw [e2]; exact Xd _ D
   exact ⟨(i.own _ _ _ y).2, .inr ⟨1, .inl y⟩⟩)
  (fun l l' b h1 h2 => by have := (A l b h1).1; have := (A l' b h2).1; omega)
  (fun l => by simp only [bd]; split; exact X; exact X10)
  (fun I => by
   refine ⟨fun l => by simp only [Y0]; exact X4 om, om, ?_⟩;have hRo : ∀ k, v.ownBlock = some k -> RoS c ⟨upd (upd E s .undef) s (.part e t x 0), upd (ovlT tmps vs) s (ovlT tmps vs s), w, upd cs s [], upd (upd bs s (fun _ => [])) s bd⟩ k := fun k N => by
    obtain ⟨m1, m2⟩ := hob k N;refine ⟨fun r l y => ?_, .inr (i.own _ _ _ m1).1⟩;have y : k ∈ (upd (upd bs s (fun _ => [])) s bd) r l := y;rw [Yc] at y;by_cases L : r = s
    ·subst L;rw [Y0] at y;exact m2 (A l k y).2
    ·rw [Y1 _ _ L] at y;exact L (i.disj _ _ _ _ _ y m1).1
   obtain ⟨M, G⟩ := Z;have F : El (Rep (RoS c ⟨upd (upd E s .undef) s (.part e t x 0), upd (ovlT tmps vs) s (ovlT tmps vs s), w, upd cs s [], upd (upd bs s (fun _ => [])) s bd⟩) w t .dp) t.sz (xs.drop (0 * t.sz)) (x.drop 0) U := by
    rw [Nat.zero_mul, X34, X34];exact El.imp (fun c0 x0 b0 _ h0 => Rep.move I (fun _ _ => rfl) h0) hel
   have eb : (upd (upd bs s (fun _ => [])) s bd) s 0 = U := by rw [Y0]; rfl
   rcases G with ⟨ev, en⟩ | ⟨g, cap, cur, ev, _, hg, h1, h2, h3, h4⟩
   ·refine ⟨none, 0, xs, ?_, M, fun j u O => ?_, by show El _ _ _ _ ((upd (upd bs s (fun _ => [])) s bd) s 0); rw [eb]; exact F⟩
    ·rw [e1, ev, en]
    ·have := (X6.1 O).1;rw [M, en] at this;omega
   ·refine ⟨some ⟨g, 0, none⟩, cap, xs, ?_, M, fun j u O => ?_, by show El _ _ _ _ ((upd (upd bs s (fun _ => [])) s bd) s 0); rw [eb]; exact F⟩
    ·rw [e1, ev]
    ·have hlt : g < w.heap.size := (Xu.1 hg).1;refine ⟨_, rfl, hRo g (by rw [ev]; rfl), hlt, ?_⟩;rw [Y1c];unfold World.cell?;rw [show w.heap[g]? = _ from hg];have : cur.toList[j]? = some u := by
      rw [<- h4, X1k] at O;split at O
      ·exact O
      ·simp at O
     simpa using this)
 have eE : upd (upd E s .undef) s (.part e t x 0) = ovl (put (killRoot s env) s (.part e t x 0)) noP := by
  unfold killRoot;rw [Y3a, Ys (by rw [Y7]; exact hsl), <- Y1v _ _ noP (fun _ => .inl rfl), Yc]
 have etm : upd (ovlT tmps vs) s (ovlT tmps vs s) = ovlT tmps vs := by funext r; simp only [upd]; split <;> simp_all
 refine ⟨by rw [Y6, Y9]; exact W, _, _, Rel.congr hre eE etm, fun p => ?_⟩;rw [<- eE, Y6, Y9];simp only [upd];split
 ·exact ⟨by simp [AV.refs], by simp [AV.ptrs]⟩
 ·have := Yg (Yy s) (ovl env noP p);exact ⟨fun z hz => (Y p).1 z (this.1 z hz), fun z hz => (Y p).2 z (this.2 z hz)⟩
theorem RP.takeAt (h : RP c env tmps w noP vs) {s : Nat} {x : List t.D} {m : Int} (hk : get env s = .part e t x m) (hsz : 0 < t.sz) {k : Nat} (hm : m <= k) (hkl : k < x.length) :
  ∃ A cp, tmps.getD s undef = .slice (some A) x.length cp /\ RP c (put env s (.part e t x (k + 1))) tmps w (upd noP env.length (.eown (leaves t (x.getD k t.dflt) (fun _ => .at_ .dp) 0))) (upd vs env.length (.pointer (some (A.add (k * t.sz))))) := by
 let N := env.length
 have I : s < env.length := by
  apply Xr;intro hn';rw [Y18 env s (X1g hn')] at hk;cases hk
 have hsN : s ≠ N := X1c I;obtain ⟨L, cs, bs, O, M⟩ := h
 replace O : Rel c (SS env noP tmps vs w cs bs) := O
 have es : (SS env noP tmps vs w cs bs).env s = .part e t x m := by show ovl env noP s = _; rw [Y8 I]; exact hk
 have et : (SS env noP tmps vs w cs bs).tm s = tmps.getD s undef := X3 (L ▸ I);have hnor : ∀ p, (∀ q ∈ (ovl env noP p).refs, q.1 ≠ N /\ q.1 ≠ s) /\ (∀ q ∈ (ovl env noP p).ptrs, q ≠ N /\ q ≠ s) := fun p => by
  obtain ⟨k1, k2⟩ := (O.av p).refs_own;refine ⟨fun q hq => ⟨by have := (M p).1 q hq; omega, fun U => ?_⟩, fun q hq => ⟨by have := (M p).2 q hq; omega, fun U => ?_⟩⟩
  ·obtain ⟨lf, u, o1, _⟩ := k1 q hq;rw [U, es] at o1;simp [AV.leaf?] at o1
  ·obtain ⟨off, vv, e2, ls, B', o1, _⟩ := k2 q hq;rw [U, es] at o1;cases o1
 have hav := O.av s;rw [es, et] at hav;obtain ⟨i, h0, A0, cp, xs, ev, hxl, y, hel⟩ := hav;have i : ∀ l, bs s (l + 1) = [] := i;obtain ⟨m', rfl⟩ : ∃ m' : Nat, m = m' := ⟨m.toNat, om⟩;simp only [X37] at hel;have hmk : m' <= k :=om;obtain ⟨ch, b0, bi, b1, hchl, hch, C, hP, D⟩ := El.cutB (k - m') (by rw [Xz]; omega) hel;have C : bs s 0 = b0 ++ bi ++ b1 := C;have G := O.nodup s 0;have G : (bs s 0).Nodup := G;rw [C] at G;obtain ⟨n1, n2, n3⟩ := El.nodup_parts G;have hxk : (x.drop m')[k - m']'(by rw [Xz]; omega) = x.getD k t.dflt := by
  rw [List.getElem_drop, Xl, X1 hkl];simp only [X2n];congr 1;omega
 rw [hxk] at hP;have hcx : ∀ (l : Nat) (u : Value), ch[l]? = some u -> xs[k * t.sz + l]? = some u := fun l u hu => by
  have := hch l u hu;rw [X1m] at this;have e : m' * t.sz + ((k - m') * t.sz + l) = k * t.sz + l := by rw [<- X1y, <- X1r]; congr 2; omega
  rwa [e] at this
 have hel3 : El (Rep (RoS c (SS env noP tmps vs w cs bs)) w t .dp) t.sz (xs.drop ((k + 1) * t.sz)) (x.drop (k + 1)) b1 := by
  rw [List.drop_drop, List.drop_drop] at D;have e1 : m' * t.sz + (k - m' + 1) * t.sz = (k + 1) * t.sz := by rw [<- X1r]; congr 1; omega
  rw [e1, show m' + (k - m' + 1) = k + 1 by omega] at D;exact D
 obtain ⟨u0, hu0⟩ : ∃ u0, ch[0]? = some u0 := ⟨_, X1 om⟩;obtain ⟨A, rfl, hAr, Z, _⟩ := y _ _ (hcx 0 u0 hu0);refine ⟨A, cp, ev, ?_⟩;obtain ⟨l1, l2, bds, l3, l4, l5⟩ := Y2q .dp t 0 hP;generalize hls : leaves t (x.getD k t.dflt) (fun _ => .at_ .dp) 0 = ls at *
 let bd : Nat -> List Nat := fun l => if l = 0 then bi else []
 let g : Nat -> List Nat := fun l => if l = 0 then b1 else []
 have E : ∀ l b, b ∈ bd l -> l = 0 /\ b ∈ bi := fun l b i => by
  simp only [bd] at i;split at i
  ·exact ⟨by assumption, i⟩
  ·simp at i
 have z : ∀ l b, b ∈ g l -> l = 0 /\ b ∈ b1 := fun l b i => by
  simp only [g] at i;split at i
  ·exact ⟨by assumption, i⟩
  ·simp at i
 have hsp := O.split2 (n := N) (m := s) hsN hnor (.eown ls) (.part e t x (k + 1)) (.pointer (some (A.add (k * t.sz)))) [] [] bd g
  (fun l b i => ⟨0, by show b ∈ bs s 0; rw [C]; exact Xc _ (Xd _ (E l b i).2)⟩) (fun l b i => ⟨0, by show b ∈ bs s 0; rw [C]; exact Xd _ (z l b i).2⟩)
  (fun l l' b X Y => by have := (E l b X).1; have := (E l' b Y).1; omega) (fun l l' b X Y => by have := (z l b X).1; have := (z l' b Y).1; omega)
  (fun l l' b X Y => n3 b (E l b X).2 (z l' b Y).2)
  (fun l => by simp only [bd]; split; exact n1; exact X10) (fun l => by simp only [g]; split; exact n2; exact X10)
  (fun F => by
   have V : ∀ l, (upd (upd bs s g) N bd) N l = bd l := fun l => by rw [Y0]
   have W : ∀ l, (upd (upd bs s g) N bd) s l = g l := fun l => by rw [Y1 _ _ hsN, Y0]
   obtain ⟨hA1, hA2⟩ := F _ hAr Z;constructor
   ·refine ⟨fun l => (V (l + 1)).trans (X4 om), A.add (k * t.sz), bds, rfl, by rw [Addr.add_block]; exact hA1, by rw [Addr.add_block]; exact Z, ?_, by rw [l3, l1], fun l lf hl => ?_⟩
    ·show (upd (upd bs s g) N bd) N 0 = _;rw [V, <- l4]; rfl
    ·have hlt : l < ch.length := by rw [<- l1]; exact (X6.1 hl).1
     obtain ⟨mm, g1, g2⟩ := l5 l lf _ hl (X1 hlt);obtain ⟨A', eA, _, _, hc2⟩ := y _ _ (hcx l _ (X1 hlt));obtain rfl := Xs eA;refine ⟨_, mm, by rw [Addr.add_add]; exact hc2, g1, fun h' U => ?_, Rep.move F (fun _ _ => rfl) g2⟩;have hlm := Yca t (x.getD k t.dflt) 0 lf (by rw [hls]; exact X8 hl);rw [g1, U] at hlm;rcases hlm with h | h <;> cases h
   ·refine ⟨fun l => (W (l + 1)).trans (X4 om), om, some A, cp, xs, by rw [et]; exact ev, hxl, fun j u hu => ?_, ?_⟩
    ·obtain ⟨a', k1, k2, k3, k4⟩ := y j u hu;exact ⟨a', k1, (F _ k2 k3).1, k3, k4⟩
    ·show El _ _ _ _ ((upd (upd bs s g) N bd) s 0);rw [W];have : ((k : Int) + 1).toNat = k + 1 :=om;rw [this];exact El.imp (fun c0 x0 b0 _ h0 => Rep.move F (fun _ _ => rfl) h0) hel3)
 have B : (put env s (.part e t x (k + 1))).length = env.length := Y6 _ _ _;have eE : upd (upd (ovl env noP) s (.part e t x (k + 1))) N (.eown ls) = ovl (put env s (.part e t x (k + 1))) (upd noP env.length (.eown ls)) := by
  rw [Ya (by rw [B]; exact Xg _), Ys I]
 refine ⟨by rw [B]; exact L, _, _, Rel.congr hsp eE (Yt om _).symm, fun p => ?_⟩;rw [<- eE, B];simp only [upd];split
 ·exact ⟨by simp [AV.refs], by simp [AV.ptrs]⟩
 ·split
  ·exact ⟨by simp [AV.refs], by simp [AV.ptrs]⟩
  ·exact M p
theorem RP.loadTaken (h : RP c env tmps w noP vs) {s : Nat} (hk : get env s = .eown ls) (G : ls.length = τ.sz) :
  ∃ (x0 : Addr) (ch : List Value), tmps.getD s undef = .pointer (some x0) /\ ch.length = τ.sz /\ (∀ (j : Nat) (u : Value), ch[j]? = some u -> w.cell? (x0.add j) = some u) /\ RP c (put env s .undef) tmps w (upd noP env.length (mkCon τ.isAgg ls)) (upd vs env.length (mkV τ.isAgg ch)) := by
 let N := env.length
 have A : s < env.length := by
  apply Xr;intro hn';rw [Y18 env s (X1g hn')] at hk;cases hk
 have hsN : s ≠ N := X1c A;obtain ⟨D, cs, bs, O, L⟩ := h
 replace O : Rel c (SS env noP tmps vs w cs bs) := O
 have es : (SS env noP tmps vs w cs bs).env s = .eown ls := by show ovl env noP s = _; rw [Y8 A]; exact hk
 have et : (SS env noP tmps vs w cs bs).tm s = tmps.getD s undef := X3 (D ▸ A);have hnor : ∀ p, (∀ q ∈ (ovl env noP p).refs, q.1 ≠ N /\ q.1 ≠ s) /\ (∀ q ∈ (ovl env noP p).ptrs, q ≠ N /\ q ≠ s) := fun p => by
  obtain ⟨k1, k2⟩ := (O.av p).refs_own;refine ⟨fun q hq => ⟨by have := (L p).1 q hq; omega, fun e' => ?_⟩, fun q hq => ⟨by have := (L p).2 q hq; omega, fun e' => ?_⟩⟩
  ·obtain ⟨lf, u, o1, _⟩ := k1 q hq;rw [e', es] at o1;simp [AV.leaf?] at o1
  ·obtain ⟨off, vv, e2, ls, B', o1, _⟩ := k2 q hq;rw [e', es] at o1;cases o1
 have Y := O.av s;rw [es, et] at Y;obtain ⟨Z, U, E, ev, hA, hAl, z, hbl, I⟩ := Y;have z : bs s 0 = E.flatten := z;have hnd : (bs s 0).Nodup := O.nodup s 0;rw [z] at hnd;obtain ⟨n1, n2⟩ := Y14 hnd
 let ch := (List.range τ.sz).map fun l => (w.cell? (U.add l)).getD undef
 have F : ch.length = τ.sz := by simp [ch]
 have hch : ∀ l u, ch[l]? = some u -> ∀ C, w.cell? (U.add l) = some C -> C = u := by
  intro l u B C hu';have hj : l < τ.sz := by have := (X6.1 B).1; omega
  have : ch[l]? = some C := by simp [ch, hj, hu']
  rw [this] at B;exact Xs B
 have hcc : ∀ (j : Nat) (u : Value), ch[j]? = some u -> w.cell? (U.add j) = some u := by
  intro j u B;have hj := (X6.1 B).1;obtain ⟨C, m, M, _⟩ := I j _ (X1 om);have M : w.cell? (U.add j) = some C := M;rw [M, hch j u B C M]
 refine ⟨U, ch, ev, F, hcc, ?_⟩
 let bd : Nat -> List Nat := fun l => match l with | 0 => [] | l + 1 => E.getD l []
 have hset : ∀ l ∈ ls, l.m.settled = true := fun l hl => by
  obtain ⟨i, hi⟩ := X11 hl;obtain ⟨u, m, _, g, _⟩ := I i l hi;rw [g]; rfl
 have hsp := O.split2 (n := N) (m := s) hsN hnor (mkCon τ.isAgg ls) .undef (mkV τ.isAgg ch) ch [] bd (fun _ => [])
  (fun l b Z => by
   cases l with
   | zero => simp [bd] at Z
   | succ l => exact ⟨0, by show b ∈ bs s 0; rw [z]; exact Yf Z⟩)
  (fun l b Z => by simp at Z)
  (fun l l' b W X => by
   cases l with
   | zero => simp [bd] at W
   | succ l => cases l' with
    | zero => simp [bd] at X
    | succ l' => rw [n2 l l' b W X])
  (fun l l' b W X => by simp at W) (fun l l' b W X => by simp at X)
  (fun l => by
   cases l with
   | zero => exact X10
   | succ l => exact n1 l) (fun l => X10)
  (fun hkp => by
   have V : (upd (upd bs s (fun _ => [])) N bd) N = bd := Y0 _ _ _;constructor
   ·refine ⟨?_, by simp only [Y0]; rw [G, F], fun l hl => ?_, fun l lf u hl B => ?_⟩
    ·simp only [Y0];have := Y1t (c := c) (w := w) (agg := τ.isAgg) (ch := ch) (fun h => by rw [F]; exact Y2s h);exact this.bare rfl
    ·show (upd (upd bs s (fun _ => [])) N bd) N (l + 1) = [];rw [V];show E.getD l [] = [];rw [Xl, X2b om];rfl
    ·simp only [Y0] at B;rw [Y2] at hl;obtain ⟨C, m, M, g2, g3, g4⟩ := I l lf hl;obtain rfl := hch l u B C M;obtain ⟨t', x', m'⟩ := lf;simp only at g2;subst g2;refine LeafRel.of_rep (by cases m <;> first | trivial | exact absurd rfl (g3 _)) ?_;show Rep _ _ _ _ _ _ ((upd (upd bs s (fun _ => [])) N bd) N (l + 1));rw [V];exact Rep.move hkp (fun _ _ => rfl) g4
   ·intro l;show (upd (upd bs s (fun _ => [])) N bd) s l = [];rw [Y1 _ _ hsN, Y0])
 have y : (put env s .undef).length = env.length := Y6 _ _ _;have eE : upd (upd (ovl env noP) s .undef) N (mkCon τ.isAgg ls) = ovl (put env s .undef) (upd noP env.length (mkCon τ.isAgg ls)) := by
  rw [Ya (by rw [y]; exact Xg _), Ys A]
 refine ⟨by rw [y]; exact D, _, _, Rel.congr hsp eE (Yt om _).symm, fun p => ?_⟩;rw [<- eE, y];simp only [upd];split
 ·have := Yb (k := if τ.isAgg then .agg else .val) hset;unfold mkCon;rw [this.1, this.2];exact ⟨sm, sm⟩
 ·split
  ·exact ⟨by simp [AV.refs], by simp [AV.ptrs]⟩
  ·exact L p
theorem Y7k (hT : TabOk P T) (G : RE c env a.tmps w) {t : TypeId} {s : Nat} {i : Operand} {x : List te.ty.D} {m : Int} {k : Nat} {env1 env' : Env} (D : o.op = .indexAddr t (.tmp s) i) (l : o.dst = some d) (W : d < env.length) (ht : elemAt T t = some te) (Y : int1 (rd none env i) = some (.i64, (k : Int)))
  (b : env1.length = env.length) (E : ∀ vs, RP c env a.tmps w noP vs -> RP c env1 a.tmps w noP vs) (Z : get env1 s = .part e te.ty x m) (hm : m <= k) (p : k < x.length)
  (h : setD (some d) (put env1 s (.part e te.ty x (k + 1))) (.eown (leaves te.ty (x.getD k te.ty.dflt) (fun _ => .at_ .dp) 0)) = env')
  (hn : ∀ j w', RE c env' j.tmps w' -> env'.length = env.length -> j.defers = a.defers -> next j w') : o.wp P a w next Q := by
 obtain ⟨hty, q, _, F, V, i0, B, C, _⟩ := TabOk.elem hT ht;obtain ⟨vs, z⟩ := id G;obtain ⟨A, I, M, hp⟩ := (E vs z).takeAt Z F hm p;have L : evT a.tmps (.tmp s) = .slice (some A) x.length I := M;have g : (Go.sizeOf te.id).run P w = .ok te.ty.sz w := by simp [Go.sizeOf, typeInfo, B, C]
 have y : (put env1 s (.part e te.ty x (k + 1))).length = env.length := by rw [Y6, b]
 refine fin (K := some) (r := env') (w' := w) l (v := .pointer (some (A.add (k * te.ty.sz)))) (av := .eown (leaves te.ty (x.getD k te.ty.dflt) (fun _ => .at_ .dp) 0)) (by simp [execOp, D, Y5, L, G.int1 Y, Instr.indexAt, asIntOf, run_underlying q, g, p]) (by rw [y]; exact W) y (by rw [y, <- b]; exact hp) (by rw [y, <- b, Y0]) (by rw [h]) (fun e j w' X N O U => by cases X; exact hn j w' N O U)
theorem Y89 (hT : TabOk P T) (L : RE c env a.tmps w) (b : o.dst = some d) (G : d < env.length) {env' : Env} (h : takeStep T caps o d env = some (true, env'))
  (I : ∀ l w', RE c env' l.tmps w' -> env'.length = env.length -> l.defers = a.defers -> next l w') : o.wp P a w next Q := by
 unfold takeStep at h;split at h
 ·rename_i t s i g;split at h
  ·split at h
   ·rename_i te n A N;split at h
    ·rename_i e Z x j;split at h
     ·rename_i p;obtain ⟨rfl, rfl⟩ := p;simp only [X0, Xy, X9, X17] at h;obtain ⟨⟨V, C⟩, h⟩ := h;obtain ⟨k, rfl⟩ : ∃ k : Nat, n = k := ⟨n.toNat, om⟩;have M := Yu j;refine Y7k hT L (env1 := put (killRoot s env) s (.part te.id te.ty x 0)) (m := 0) g b G A N (by rw [Y6, Y9]) (fun vs y => y.toPart j) (by rw [Y13, X3 ⟨rfl, by rw [Y9]; exact M⟩]) om om ?_ I;rw [Y3a];simpa using h
     ·cases h
    ·rename_i e Z x m j;split at h
     ·rename_i p;obtain ⟨rfl, rfl⟩ := p;simp only [X0, Xy, X9, X17] at h;obtain ⟨⟨B, V, C⟩, h⟩ := h;obtain ⟨k, rfl⟩ : ∃ k : Nat, n = k := ⟨n.toNat, om⟩;exact Y7k hT L (env1 := env) g b G A N rfl (fun vs y => y) j B om (by simpa using h) I
     ·cases h
    ·cases h
   ·cases h
  ·cases h
 ·rename_i t s g;split at h
  ·rename_i ls j;split at h
   ·rename_i τ A;split at h
    ·rename_i p;simp only [X0, Xy, true_and] at h;have q := Y17 p.1;obtain ⟨vs, D⟩ := id L;obtain ⟨x0, ch, U, F, E, y⟩ := D.loadTaken j (τ := τ) q;have O : evT a.tmps (.tmp s) = .pointer (some x0) := U;have z : (put env s .undef).length = env.length := Y6 _ _ _;refine fin (K := some) (r := env') (w' := w) b (v := mkV τ.isAgg ch) (av := mkCon τ.isAgg ls) (by simp [execOp, g, Y5, O, Y3u hT A F E]) (by rw [z]; exact G) z (by rw [z]; exact y) (by rw [z, Y0]) (by rw [h]) (fun e l w' Y C W X => by cases Y; exact I l w' C W X)
    ·cases h
   ·cases h
  ·cases h
 ·cases h
end
section
variable {P : Program} {o : Oper} {a : Act} {w : World} {Q : Exit -> Act -> World -> Prop} {c : Cx} {d : Nat} {T : Tab} {env : Env} {caps : FuncId -> List Ty}
theorem Y9b {b : Bool} {env' : Env} (h : selStep T caps o env = some (b, env')) : o.guard = none := by
 unfold selStep at h;split at h
 ·assumption
 ·cases h
theorem Y9c (hT : TabOk P T) (m : RE c env a.tmps w) {env' : Env} (h : selStep T caps o env = some (true, env'))
  (l : ∀ g w', RE c env' g.tmps w' -> env'.length = env.length -> g.defers = a.defers -> next g w') : o.wp P a w next Q := by
 unfold selStep at h;split at h
 ·rename_i d p b;split at h
  ·rename_i j;split at h
   ·rename_i env1 i;simp only [X0, Xy, true_and] at h;subst h;exact Y9a m b j i l
   ·exact Y89 hT m b j h l
  ·cases h
 ·cases h
end
theorem Yb4 (r : Nat) : Fewer (renewG r) := by
 intro r' j p l;unfold renewG;simp only;split
 ·exact .inl rfl
 ·exact .inr rfl
section
variable {c : Cx} {env : Env} {w : World}
theorem RP.renewR (hlen : env.length = tmps.size) (m : Rel c (SS env noP tmps vs w cs bs)) (hno : ∀ r, (∀ q ∈ (ovl env noP r).refs, q.1 < env.length) /\ (∀ q ∈ (ovl env noP r).ptrs, q < env.length)) {r : Nat} {e : BoxK} (hr : get env r = .con (.box e) ls) {B : Nat} (hB : bs r 0 = [B]) (htm : tmps.getD r undef = .pointer (some ⟨B, 0, none⟩)) (hbel : Below c.base w w') {ch' : List Value} {br bn : Nat -> List Nat} {ns : List Leaf} {k2 : Kind} {ls2 : List Leaf} {rv : Value} {cells2 : List Value}
  (I : ∀ b, b < w.heap.size -> (∀ l, b ∉ bs r l) -> w'.heap[b]? = w.heap[b]?) (hBh : w'.heap[B]? = some (.cells ch'.toArray e.id (0, 0))) (hfix : ∀ l, nthB e.fix l = true -> ch'[l]? = (cs r)[l]?)
  (hbr0 : br 0 = [B]) (hnl : ns.length = ch'.length) (hbrn : ∀ l, ns.length <= l -> br (l + 1) = []) (hn1 : ∀ l b, b ∈ br l -> b < w'.heap.size /\ (w.heap.size <= b \/ ∃ C, b ∈ bs r C)) (hn2 : ∀ l b, b ∈ bn l -> b < w'.heap.size /\ (w.heap.size <= b \/ ∃ C, b ∈ bs r C))
  (hd1 : ∀ l C b, b ∈ br l -> b ∈ br C -> l = C) (hd2 : ∀ l C b, b ∈ bn l -> b ∈ bn C -> l = C) (hd3 : ∀ l C b, b ∈ br l -> b ∉ bn C) (hnd1 : ∀ l, (br l).Nodup) (hnd2 : ∀ l, (bn l).Nodup)
  (hset1 : ∀ l ∈ ns, l.refs = []) (N : ∀ l ∈ ls2, l.m.settled = true)
  (Y : let s' : St := ⟨upd (upd (chgE (renewG r) (ovl env noP)) r (.con (.box e) ns)) env.length (.con k2 ls2), upd (ovlT tmps vs) env.length rv, w', upd (upd cs r ch') env.length cells2, upd (upd bs r br) env.length bn⟩
   Keeps c (SS env noP tmps vs w cs bs) s' -> (∀ l lf u, ns[l]? = some lf -> ch'[l]? = some u -> LeafRel c s' r l u lf) /\ AVRel c s' env.length (.con k2 ls2) rv) :
  RP c (renewBox r (.box e) ns env) tmps w' (upd noP env.length (.con k2 ls2)) (upd vs env.length rv) := by
 have Z : r < env.length := Yu hr;have M : r ≠ env.length := X1c Z
 let s' : St := ⟨upd (upd (chgE (renewG r) (ovl env noP)) r (.con (.box e) ns)) env.length (.con k2 ls2), upd (ovlT tmps vs) env.length rv, w', upd (upd cs r ch') env.length cells2, upd (upd bs r br) env.length bn⟩
 have hbN : ∀ l, bs env.length l = [] := by
  have := m.av env.length;rw [show (SS env noP tmps vs w cs bs).env env.length = .undef by show ovl env noP _ = _; rw [Yr (Xg _)]; rfl] at this;exact this
 have X : s'.bs r = br := by show upd (upd bs r br) env.length bn r = _; rw [Y1 _ _ M, Y0]
 have eN : s'.bs env.length = bn := Y0 _ _ _;have eO : ∀ p, p ≠ r -> p ≠ env.length -> s'.env p = (ovl env noP p).chg (renewG r) /\ s'.tm p = ovlT tmps vs p /\ s'.cs p = cs p /\ s'.bs p = bs p := fun p g y => by
  refine ⟨?_, Y1 _ _ y, ?_, ?_⟩
  ·show upd (upd _ r _) env.length _ p = _;rw [Y1 _ _ y, Y1 _ _ g]; rfl
  ·show upd (upd cs r ch') env.length cells2 p = _;rw [Y1 _ _ y, Y1 _ _ g]
  ·show upd (upd bs r br) env.length bn p = _;rw [Y1 _ _ y, Y1 _ _ g]
 have hstep : Rel c s' := by
  refine Rel.step (s := SS env noP tmps vs w cs bs) (s' := s') (renewG r) m (fun p => p = r \/ p = env.length) (fun a j => ∃ lf u, OwnPlace (SS env noP tmps vs w cs bs) a j lf u) (fun a => ∃ off v, PtrRel (SS env noP tmps vs w cs bs) a off v) (fun p F => ?_) hbel (fun b z hne => ?_) (fun p l b F z => ?_) (fun p l p' C b F hp' z A => ?_) (fun p l F => ?_) (fun p F => ?_) (fun hk => ⟨?_, ?_, ?_⟩) (fun hk p F => ?_)
  ·grind
  ·grind
  ·rcases F with rfl | rfl
   ·rw [X] at z;obtain ⟨g, y⟩ := hn1 l b z;exact ⟨g, y.imp id (fun ⟨C, h⟩ => ⟨p, C, .inl rfl, h⟩)⟩
   ·rw [eN] at z;obtain ⟨g, y⟩ := hn2 l b z;exact ⟨g, y.imp id (fun ⟨C, h⟩ => ⟨r, C, .inl rfl, h⟩)⟩
  ·rcases F with rfl | rfl
   ·rcases hp' with rfl | rfl
    ·rw [X] at z A; exact ⟨rfl, hd1 _ _ _ z A⟩
    ·rw [X] at z; rw [eN] at A; exact absurd A (hd3 _ _ _ z)
   ·rcases hp' with rfl | rfl
    ·rw [eN] at z; rw [X] at A; exact absurd z (hd3 _ _ _ A)
    ·rw [eN] at z A; exact ⟨rfl, hd2 _ _ _ z A⟩
  ·rcases F with rfl | rfl
   ·rw [X]; exact hnd1 l
   ·rw [eN]; exact hnd2 l
  ·exact (m.av p).refs_own
  ·intro u t x r1 j p hL W;unfold renewG;simp only;by_cases g : r1 = r
   ·rw [X3 g];exact ⟨rfl, Rep.one W.1 u sm⟩
   ·rw [X4 g];refine ⟨rfl, ?_⟩;obtain ⟨lf0, u0, y, h3, h4⟩ := hL;have E : r1 < env.length := by
     apply Nat.lt_of_not_le;intro G;have : (SS env noP tmps vs w cs bs).env r1 = .undef := by show ovl env noP r1 = _; rw [Yr G]; rfl
     rw [this] at y; simp [AV.leaf?] at y
    obtain ⟨o1, o2, o3, o4⟩ := eO r1 g (X1c E);refine BorRel.keep hk ⟨fun lf u L => ?_, by rw [o4], fun b z => ?_⟩ W
    ·obtain ⟨D, p2, p3⟩ := L;refine ⟨?_, p2, gr⟩;rw [o1];have D : (ovl env noP r1).leaf? j = some lf := D;cases hv : ovl env noP r1 with
     | con k0 ls0 =>
      rw [hv] at D;simp only [AV.leaf?] at D;simp only [AV.chg, AV.leaf?];rw [Yk, D];obtain ⟨t0, x0, m0⟩ := lf;cases m0 with
      | at_ lv => rfl
      | bor _ _ _ => simp [Mode.own] at p2
      | dead => simp [Mode.own] at p2
     | _ => rw [hv] at D; simp [AV.leaf?] at D
    ·exact I b (m.own _ _ _ z).2 (fun l O => g (m.disj _ _ _ _ _ z O).1)
  ·intro a r1 j p i o hL hwr;unfold renewG;simp only;by_cases g : r1 = r
   ·grind
   ·rw [show (r1 == r) = false from by simpa using g];simp;obtain ⟨lf0, u0, y, h3, h4⟩ := hL;have E : r1 < env.length := by
     apply Nat.lt_of_not_le;intro G;have : (SS env noP tmps vs w cs bs).env r1 = .undef := by show ovl env noP r1 = _; rw [Yr G]; rfl
     rw [this] at y; simp [AV.leaf?] at y
    obtain ⟨o1, o2, o3, o4⟩ := eO r1 g (X1c E);refine WrRel0.keep hk ⟨fun lf u L => ?_, by rw [o4], fun b z => ?_⟩ hwr
    ·obtain ⟨D, p2, p3⟩ := L;refine ⟨?_, p2, by rw [o3]; exact p3⟩;rw [o1];have D : (ovl env noP r1).leaf? j = some lf := D;cases hv : ovl env noP r1 with
     | con k0 ls0 =>
      rw [hv] at D;simp only [AV.leaf?] at D;simp only [AV.chg, AV.leaf?];rw [Yk, D];obtain ⟨t0, x0, m0⟩ := lf;cases m0 with
      | at_ lv => rfl
      | bor _ _ _ => simp [Mode.own] at p2
      | dead => simp [Mode.own] at p2
     | _ => rw [hv] at D; simp [AV.leaf?] at D
    ·exact I b (m.own _ _ _ z).2 (fun l O => g (m.disj _ _ _ _ _ z O).1)
  ·intro r1 hL _;obtain ⟨off, v, e0, ls0, B0, q1, q2, q3⟩ := hL;have q1 : ovl env noP r1 = .con (.box e0) ls0 := q1;have E : r1 < env.length := by
    apply Nat.lt_of_not_le;intro G;rw [Yr G] at q1;exact AV.noConfusion q1
   refine ⟨Y1 _ _ (X1c E), fun e1 ls1 g => ?_⟩;by_cases y : r1 = r
   ·subst y;exact ⟨e, ns, by show upd (upd _ r1 _) env.length _ r1 = _; rw [Y1 _ _ M, Y0]⟩
   ·have g : ovl env noP r1 = .con (.box e1) ls1 := g;exact ⟨e1, chgs (renewG r) ls1, by rw [(eO r1 y (X1c E)).1, g]; rfl⟩
  ·obtain ⟨hl1, hl2⟩ := Y hk;rcases F with rfl | rfl
   ·have ee : s'.env p = .con (.box e) ns := by show upd (upd _ p _) env.length _ p = _; rw [Y1 _ _ M, Y0]
    have et : s'.tm p = .pointer (some ⟨B, 0, none⟩) := by
     show upd (ovlT tmps vs) env.length rv p = _;rw [Y1 _ _ M];exact (X3 om).trans htm
    have ec : s'.cs p = ch' := by show upd (upd cs p ch') env.length cells2 p = _; rw [Y1 _ _ M, Y0]
    have hav := m.av p;rw [show (SS env noP tmps vs w cs bs).env p = .con (.box e) ls by show ovl env noP p = _; rw [Y8 Z]; exact hr] at hav;obtain ⟨⟨B1, g1, g2, g3, g4, g5⟩, _⟩ := hav;rw [ee, et];refine ⟨⟨B, rfl, by rw [ec]; exact hBh, by rw [X]; exact hbr0, fun F => ?_, fun l O => ?_⟩, by rw [ec]; exact hnl, fun l O => by rw [X]; exact hbrn l O, fun l lf u O hu => hl1 l lf u (by rw [<- Y2]; exact O) gr⟩
    ·grind
    ·grind
   ·have ee : s'.env env.length = .con k2 ls2 := Y0 _ _ _;have et : s'.tm env.length = rv := Y0 _ _ _;rw [ee, et];exact hl2
 have U : (renewBox r (.box e) ns env).length = env.length := by unfold renewBox; rw [Y6, Y7]
 have e1 : upd (upd (chgE (renewG r) (ovl env noP)) r (.con (.box e) ns)) env.length (.con k2 ls2) = ovl (renewBox r (.box e) ns env) (upd noP env.length (.con k2 ls2)) := by
  rw [Ya gr];congr 1;funext p;by_cases F : p < env.length
  ·rw [Y8 (by rw [U]; exact F)];unfold renewBox;rw [Y2r (by rw [Y7]; exact Z), Y82];by_cases g : p = r
   ·rw [g, Y0, Y0]
   ·rw [Y1 _ _ g, Y1 _ _ g];show (ovl env noP p).chg _ = (get env p).chg _;rw [Y8 F]
  ·rw [Yr (by rw [U]; omega), Y1 _ _ om];show (ovl env noP p).chg _ = _;rw [Yr om]; rfl
 refine ⟨by rw [U]; exact hlen, _, _, Rel.congr hstep e1 (Yt om rv).symm, fun p => ?_⟩;rw [U, <- e1];by_cases y : p = env.length
 ·rw [y, Y0, (Yb N).1, (Yb N).2];exact ⟨sm, sm⟩
 ·rw [Y1 _ _ y];by_cases g : p = r
  ·rw [g, Y0];refine ⟨fun q V => ?_, by simp [AV.ptrs]⟩;simp only [AV.refs, Xn] at V;obtain ⟨l, O, V⟩ := V;rw [hset1 l O] at V; simp at V
  ·rw [Y1 _ _ g];have := Yg (Yb4 r) (ovl env noP p);exact ⟨fun q V => (hno p).1 q (this.1 q V), fun q V => (hno p).2 q (this.2 q V)⟩
end
theorem Y3w {b : BoxSig} : ∀ {ls : List Leaf} {n l : Nat} {lf : Leaf}, boxFits b n ls = true -> ls[l]? = some lf -> lf.m.settled = true /\ (∀ e τ, lf.t = .slice e τ -> (slotAt b.lv (n + l)).isFx = true \/ lf.m = b.md (n + l))
 | [], n, l, lf, _, hl => by simp at hl
 | a :: ls, n, 0, lf, h, hl => by
  obtain rfl : a = lf := by simpa using hl
  simp [boxFits] at h;refine ⟨h.1.1, fun e τ g => ?_⟩;have := h.1.2;rw [g] at this;simpa using this
 | a :: ls, n, l + 1, lf, h, hl => by
  simp [boxFits] at h;have := Y3w (n := n + 1) (l := l) h.2 (by simpa using hl)
  rwa [show n + 1 + l = n + (l + 1) by omega] at this
theorem Y7l {b : BoxSig} : ∀ {ls : List Leaf} {n l : Nat} {lf : Leaf}, boxCalm b n ls = true -> ls[l]? = some lf -> ∀ e τ, lf.t = .slice e τ -> slotAt b.lv (n + l) = .fx \/ slotAt b.lv (n + l) = .dp
 | [], n, l, lf, _, hl => by simp at hl
 | a :: ls, n, 0, lf, h, hl => by
  obtain rfl : a = lf := by simpa using hl
  simp [boxCalm] at h;intro e τ i;have := h.1;rw [i] at this;simp;cases g : slotAt b.lv n <;> rw [g] at this <;> simp_all
 | a :: ls, n, l + 1, lf, h, hl => by
  simp [boxCalm] at h;have := Y7l (n := n + 1) (l := l) h.2 (by simpa using hl)
  rwa [show n + 1 + l = n + (l + 1) by omega] at this
theorem Y7m {b : BoxSig} : ∀ {ls : List Leaf} {n l : Nat} {lf : Leaf}, boxFxRo b n ls = true -> ls[l]? = some lf -> (slotAt b.lv (n + l)).isFx = true -> lf.m.own = false
 | [], n, l, lf, _, hl => by simp at hl
 | a :: ls, n, 0, lf, h, hl => by
  obtain rfl : a = lf := by simpa using hl
  simp [boxFxRo] at h;intro i;rcases h.1 with g | g
  ·grind
  ·exact g
 | a :: ls, n, l + 1, lf, h, hl => by
  simp [boxFxRo] at h;have := Y7m (n := n + 1) (l := l) h.2 (by simpa using hl)
  rwa [show n + 1 + l = n + (l + 1) by omega] at this
theorem Y5q : ∀ {fs : List Bool} {ss : List Slot} {l : Nat}, subFix fs ss = true -> nthB fs l = true -> (slotAt ss l).isFx = true
 | [], ss, l, _, h => by simp [nthB] at h
 | f :: fs, [], 0, h, h2 => by simp [subFix] at h; simp only [nthB] at h2; rw [h2] at h; simp at h
 | f :: fs, [], l + 1, h, h2 => by simp [subFix] at h; exact Y5q (ss := []) (l := l) h.2 h2
 | f :: fs, s :: ss, 0, h, h2 => by
  simp [subFix] at h;simp [nthB] at h2;rcases h.1 with b | b
  ·grind
  ·exact b
 | f :: fs, s :: ss, l + 1, h, h2 => by simp [subFix] at h; exact Y5q (fs := fs) (ss := ss) (l := l) h.2 h2
theorem Y45 {b : BoxSig} : ∀ {n : Nat} {ls ms : List Leaf}, ls.length = ms.length -> (mixLs b n ls ms).length = ls.length
 | n, [], [], _ => rfl
 | n, [], _ :: _, h => by simp at h
 | n, _ :: _, [], h => by simp at h
 | n, l :: ls, m :: ms, h => by simp [mixLs]; rw [Y45 (by simpa using h)]
theorem Y6y {b : BoxSig} : ∀ {n l : Nat} {ls ms : List Leaf} {lf : Leaf}, (mixLs b n ls ms)[l]? = some lf -> ((slotAt b.lv (n + l)).isFx = true /\ ls[l]? = some lf) \/ ((slotAt b.lv (n + l)).isFx = false /\ ms[l]? = some lf)
 | n, l, [], ms, lf, h => by simp [mixLs] at h
 | n, l, _ :: _, [], lf, h => by simp [mixLs] at h
 | n, 0, a :: ls, m :: ms, lf, h => by
  simp only [mixLs, Xi, X0] at h;cases g : (slotAt b.lv n).isFx with
  | true => grind
  | false => grind
 | n, l + 1, a :: ls, m :: ms, lf, h => by
  simp only [mixLs, X1o] at h;have := Y6y (n := n + 1) (l := l) h;rw [show n + 1 + l = n + (l + 1) by omega] at this;simpa using this
def Leaf.dat (l : Leaf) : Σ t : Ty, t.D := ⟨l.t, l.x⟩
theorem Y7n {l : Leaf} {x : t.D} (h : l.as t = some x) : l.dat = ⟨t, x⟩ := by
 rw [Leaf.as_eq h]; rfl
theorem Y69 (p : Nat -> Mode) : ∀ (t : Ty) {ls : List Leaf} {x : t.D} {rest : List Leaf} (n : Nat), asm t ls = some (x, rest) -> ∃ i, ls = i ++ rest /\ i.map Leaf.dat = (leaves t x p n).map Leaf.dat
 | .unit, ls, x, rest, n, h => by
  simp [asm] at h;obtain ⟨_, rfl⟩ := h;exact ⟨[], rfl, rfl⟩
 | .pair a b, ls, x, rest, n, h => by
  simp [asm] at h;cases j : asm a ls with
  | none => rw [j] at h; simp at h
  | some q =>
   obtain ⟨G, E⟩ := q;rw [j] at h;simp only at h;cases m : asm b E with
   | none => rw [m] at h; simp at h
   | some q =>
    obtain ⟨I, F⟩ := q;rw [m] at h;simp at h;obtain ⟨rfl, rfl⟩ := h;obtain ⟨C, z, B⟩ := Y69 p a n j;obtain ⟨D, A, k2⟩ := Y69 p b (n + a.sz) m;exact ⟨C ++ D, by rw [z, A, X7], by simp [leaves, B, k2]⟩
 | .int kk, ls, x, rest, n, h => by
  cases ls with
  | nil => simp [asm] at h
  | cons l ls =>
   simp [asm] at h;cases g : l.as (.int kk) with
   | none => rw [g] at h; simp at h
   | some y =>
    rw [g] at h;simp at h;obtain ⟨rfl, rfl⟩ := h;exact ⟨[l], rfl, by simp only [X23, X3b, Y7n g]; rfl⟩
 | .bool, ls, x, rest, n, h => by
  cases ls with
  | nil => simp [asm] at h
  | cons l ls =>
   simp [asm] at h;cases g : l.as .bool with
   | none => rw [g] at h; simp at h
   | some y =>
    rw [g] at h;simp at h;obtain ⟨rfl, rfl⟩ := h;exact ⟨[l], rfl, by simp only [X23, X3b, Y7n g]; rfl⟩
 | .str, ls, x, rest, n, h => by
  cases ls with
  | nil => simp [asm] at h
  | cons l ls =>
   simp [asm] at h;cases g : l.as .str with
   | none => rw [g] at h; simp at h
   | some y =>
    rw [g] at h;simp at h;obtain ⟨rfl, rfl⟩ := h;exact ⟨[l], rfl, by simp only [X23, X3b, Y7n g]; rfl⟩
 | .slice e τ, ls, x, rest, n, h => by
  cases ls with
  | nil => simp [asm] at h
  | cons l ls =>
   simp [asm] at h;cases g : l.as (.slice e τ) with
   | none => rw [g] at h; simp at h
   | some y =>
    rw [g] at h;simp at h;obtain ⟨rfl, rfl⟩ := h;exact ⟨[l], rfl, by simp only [X23, X3b, Y7n g]; rfl⟩
theorem Y26 (g : Nat -> Mode) : ∀ (t : Ty) (x : t.D) (n l : Nat) (lf : Leaf), (leaves t x g n)[l]? = some lf -> (lf.t.flatB = true /\ lf.m = .at_ .ro) \/ ((∃ e τ, lf.t = .slice e τ) /\ lf.m = g (n + l))
 | .unit, x, n, l, lf, h => by simp [leaves] at h
 | .int _, x, n, 0, lf, h => by simp only [leaves, Xi, X0] at h; subst h; exact .inl ⟨rfl, rfl⟩
 | .bool, x, n, 0, lf, h => by simp only [leaves, Xi, X0] at h; subst h; exact .inl ⟨rfl, rfl⟩
 | .str, x, n, 0, lf, h => by simp only [leaves, Xi, X0] at h; subst h; exact .inl ⟨rfl, rfl⟩
 | .slice e τ, x, n, 0, lf, h => by simp only [leaves, Xi, X0] at h; subst h; exact .inr ⟨⟨e, τ, rfl⟩, rfl⟩
 | .int _, x, n, l + 1, lf, h => by simp [leaves] at h
 | .bool, x, n, l + 1, lf, h => by simp [leaves] at h
 | .str, x, n, l + 1, lf, h => by simp [leaves] at h
 | .slice _ _, x, n, l + 1, lf, h => by simp [leaves] at h
 | .pair a b, x, n, l, lf, h => by
  simp [leaves] at h;have i : (leaves a x.1 g n).length = a.sz := by
   have := congrArg List.length (Y12 a x.1 g n);rw [X2r] at this;rw [this, Y1y]
  by_cases j : l < a.sz
  ·rw [Xk om] at h;exact Y26 g a x.1 n l lf h
  ·rw [Xe om, i] at h;have := Y26 g b x.2 (n + a.sz) (l - a.sz) lf h
   rwa [show n + a.sz + (l - a.sz) = n + l by omega] at this
end Go.FP
