/- How Go values lie in memory, and an evaluator of code with its soundness (part 4 of 7). Conditions: those that stand in each theorem; nothing is assumed of any program. -/
import Derived.Test.YtdnmcmhnikjphaaGreatFpC

set_option linter.unusedVariables false
set_option linter.unusedSimpArgs false
set_option linter.unnecessarySimpa false

namespace Go.FP
open Go.RowKit
variable {S : Nat -> Prop} {w : World} {env : Env} {tmps : Array Value} {vs : Nat -> Value} {ps : Nat -> AV} {cs : Nat -> List Value} {bs : Nat -> Nat -> List Nat} {c : Cx} {s : St} {next : Act -> World -> Prop} {ls : List Leaf} {x : Operand} {t : Ty} {v : Value} {f : FuncId} {e : TypeId} {cells : List Value} {n : Nat} {u : Value} {rs : List (Ty × Lvl)} {k : Kind} {sg : Sig} {lv : Lvl} {τ : Ty} {w' : World} {xs : List (Σ t : Ty, t.D)} {us : List Value} {te : TE}
theorem Y2c (r j : Nat) (n : Leaf) (env : Env) : (syncPlace r j n env).length = env.length := by unfold syncPlace; rw [Y6, Y7]
theorem Y84 {r j : Nat} {n lf : Leaf} (h : (get env r).leaf? j = some lf) : (get (syncPlace r j n env) r).leaf? j = some n := by
 have hrl := Y1b h;obtain ⟨k, ls0, hv0⟩ : ∃ k ls, get env r = .con k ls := by
  cases hv : get env r with
  | con k ls => exact ⟨k, ls, rfl⟩
  | _ => rw [hv] at h; simp [AV.leaf?] at h
 unfold syncPlace;rw [Y2i (by rw [Y7]; exact hrl), Y0, Y11, hv0];rw [hv0] at h;simp only [AV.leaf?, Y2] at h;simp only [AV.chg, AV.setLeaf, AV.leaf?, Y2, Ya];rw [X1r (by rw [Yo]; exact (X5.1 h).1)]
theorem Y4t (hrel : Rel c (SS env ps tmps vs w cs bs)) {r j : Nat} {ys : List t.D} (hlv : lv.deep = true)
  (hq : (get env r).leaf? j = some ⟨.slice e t, ys, .at_ lv⟩) (h0 : 0 < ys.length) :
  ∃ B cp cells b1, (cs r)[j]? = some (.slice (some ⟨B, 0, none⟩) ys.length cp) /\ bs r (j + 1) = B :: b1 /\ El (Rep (fun _ => False) w t .dp) t.sz cells ys b1 /\ w.ownsRow 0 e t.sz (.slice (some ⟨B, 0, none⟩) ys.length cp) ys.length cells := by
 have hrl := Y1b hq;have hav := hrel.av r;have e1 : (SS env ps tmps vs w cs bs).env r = get env r := Y8 hrl;rw [e1] at hav;obtain ⟨k, ls0, hv0⟩ : ∃ k ls, get env r = .con k ls := by
  cases hv : get env r with
  | con k ls => exact ⟨k, ls, rfl⟩
  | _ => rw [hv] at hq; simp [AV.leaf?] at hq
 rw [hv0] at hav hq;have hl0 : leafAt ls0 j = some ⟨.slice e t, ys, .at_ lv⟩ := hq;have hlt : j < ls0.length := by rw [Y2] at hl0; exact (X5.1 hl0).1
 have g2 : ls0.length = (cs r).length := hav.2.1;have hu : (cs r)[j]? = some ((cs r)[j]'(by omega)) := X1 (by omega);have hrep := (Rep.deep hlv).1 (hav.2.2.2 j _ _ hl0 hu).rep;obtain ⟨v, cells, b0, b1, f1, f2, f3, f4⟩ := hrep;have f1 : (cs r)[j]'(by omega) = v := by simpa using f1
 rw [f1] at hu;obtain ⟨f4, f5⟩ := f4;rcases f5.2 with ⟨_, hn⟩ | ⟨g, cap, cur, rfl, _⟩
 ·omega
 ·have f4 : b0 = [g] := f4;subst f4;exact ⟨g, cap, cells, b1, hu, f2, El.imp (fun c x b hb h => Rep.dpS h) f3, f5⟩
theorem Y6t {sz n : Nat} {B k cp : Nat} (h : w.ownsRow 0 e sz (.slice (some ⟨B, 0, none⟩) n cp) n cells) (hu : cells[k]? = some u) : w.cell? ⟨B, k, none⟩ = some u := by
 have := World.ownsRow.cells (g := B) h rfl k u hu
 rwa [Y17, X13] at this
section
variable {P : Program} {o : Oper} {a : Act} {w : World} {R : Type} {K : Env -> Option R} {r0 : R} {next : Act -> World -> Prop} {Q : Exit -> Act -> World -> Prop} {c : Cx} {d : Nat} {T : Tab} {env : Env}
theorem Ybw (hT : TabOk P T) {t : TypeId} {s x : Operand} {cl : Call} {r j oo : Nat} {i : Int} (hop : o.op = .call cl) (hc : cl.callee = .builtin .append) (hargs : cl.args.toList = [s, x]) (htys : cl.argTypes.toList = [t, t]) (hdst : o.dst = some d)
  (hr : RE c env a.tmps w) (hd : d < env.length) (ht : elemAt T t = some te) (hs : nestOf env s = some (r, j, i, oo)) (hK : appendN d te r j i oo x env K = some r0) (hn : Next c a K r0 env.length next) : o.wp P a w next Q := by
 unfold appendN at hK;split at hK
 ·rename_i lx hrd;split at hK
  ·rename_i xs has;split at hK
   ·rename_i hlf;obtain ⟨hl, hf⟩ := hlf;split at hK
    ·rename_i e t' ys lv hq;split at hK
     ·rename_i hlv;have hi : 0 <= i /\ i < (ys.length : Int) := by
       apply Xu;intro h';have : (decide (0 <= i) && decide (i < (ys.length : Int))) = false := by
        rw [X2h, X1c, X1c]; omega
       rw [this] at hK; simp at hK
      rw [X21 hi.1, X21 hi.2] at hK
      replace hK : (match leafD t' (ys.getD i.toNat t'.dflt) oo with
       | some q => match (⟨q.1, q.2, .at_ .dp⟩ : Leaf).as (.slice te.id te.ty) with
        | some row => appendTo te .dp row xs fun l => K (setD (some d) (syncPlace r j ⟨.slice e t', ys, .at_ lv⟩ env) (.grow r j i oo l))
        | none => none
       | none => none) = some r0 := hK
      have hin : i.toNat < ys.length := by omega
      have hgetD : ys.getD i.toNat t'.dflt = ys[i.toNat] := by simp [hin]
      rw [hgetD] at hK;split at hK
      ·rename_i q hleaf;split at hK
       ·rename_i row hrow;have hle := Leaf.as_eq hrow;have hq1 : q = ⟨.slice te.id te.ty, row⟩ := by
         obtain ⟨q1, q2⟩ := q;simp only [Leaf.mk.injEq] at hle;obtain ⟨rfl, h2, _⟩ := hle;simp only [heq_eq_eq] at h2;rw [h2]
        subst hq1;unfold appendTo at hK;have hb : (row.length + xs.length) * te.bytes <= 140737488355328 := by
         apply Xu;intro h';rw [decide_eq_false h'] at hK;simp at hK
        rw [X21 hb] at hK
        replace hK : K (setD (some d) (syncPlace r j ⟨.slice e t', ys, .at_ lv⟩ env) (.grow r j i oo ⟨.slice te.id te.ty, row ++ xs, .at_ .dp⟩)) = some r0 := hK
        -- the name of the row
        unfold nestOf at hs;split at hs
        ·rename_i s0;split at hs
         ·rename_i t1 y1 r1 j1 i1 o1 hg0;simp only [X0, Xy] at hs;obtain ⟨rfl, rfl, rfl, rfl⟩ := hs;obtain ⟨vs, hlen, cs, bs, hrel, hno⟩ := hr;have hr : RE c env a.tmps w := ⟨vs, hlen, cs, bs, hrel, hno⟩;have hs0 : s0 < env.length := Ys hg0;have hrl : r1 < env.length := Y1b hq
          let S := SS env noP a.tmps vs w cs bs
          obtain ⟨B, cp, cells, b1, n1, n2, n3, n4⟩ := Y4t hrel hlv hq (by omega);obtain ⟨pre, ch, post, x0, x1, x2, f1, f2, f3, f4, f5, f6⟩ := El.at2 i1.toNat hin n3;have f5 : Rep (fun _ => False) w t' .dp ch ys[i1.toNat] x1 := f5;obtain ⟨u1, bA, bl, bB, g1, g2, g3, g4⟩ := Rep.leafAt t' f5 hleaf;have hoo : o1 < t'.sz := by
           have := (X5.1 g1).1;omega
          have hcell : w.cell? ⟨B, i1.toNat * t'.sz + o1, none⟩ = some u1 := by
           refine Y6t n4 ?_;rw [f1, X7, Xe (by omega), Xo (by omega), f2, show i1.toNat * t'.sz + o1 - i1.toNat * t'.sz = o1 by omega];exact g1
          -- it is the row's header
          have hu1 : evT a.tmps (.tmp s0) = u1 := by
           have hav := hrel.av s0;have e1 : (SS env noP a.tmps vs w cs bs).env s0 = .con .val [⟨t1, y1, .bor r1 j1 [(i1, o1)]⟩] := by show ovl env noP s0 = _; rw [Y8 hs0]; exact hg0
           have e2 : (SS env noP a.tmps vs w cs bs).tm s0 = a.tmps.getD s0 undef := X3 (hlen ▸ hs0);rw [e1, e2] at hav;obtain ⟨⟨k1, _⟩, _, _, k4⟩ := hav;have := k4 0 _ (a.tmps.getD s0 undef) rfl (by rw [k1]; rfl);obtain ⟨_, _, _, k5⟩ := this;obtain ⟨ad, ⟨_, lf, u, ⟨o1', _, o3⟩, k6⟩, k7⟩ := k5 _ _ rfl;obtain ⟨e', t'', xs', m', B', n', cp', m1, m2, _, _, m5⟩ := k6.1 rfl;have o1' : (ovl env noP r1).leaf? j1 = some lf := o1';rw [Y8 hrl, hq, m1] at o1';simp only [X0, Leaf.mk.injEq, Ty.slice.injEq] at o1';obtain ⟨⟨rfl, rfl⟩, _, _⟩ := o1';have o3 : (cs r1)[j1]? = some u := o3;rw [n1, m2] at o3;simp only [X0, Value.slice.injEq, X2m, and_true] at o3;obtain ⟨rfl, _, _⟩ := o3;have k7 : w.cell? ad = some (a.tmps.getD s0 undef) := k7;rw [m5, hcell] at k7;exact (Xr k7).symm
          -- the row itself
          obtain ⟨v0, cls, c0, c1, p1, p2, p3, p4⟩ := g3;obtain rfl : u1 = v0 := by simpa using p1
          obtain ⟨p4, p5⟩ := p4;have hc1 : c1 = [] := El.noB (fun c' x' b' h' => (Rep.flat (S' := fun _ => False) (w' := w) (m' := .ro) hf h').1) p3;rw [hc1, Xf, p4] at p2;have p3f : ∀ (w2 : World) (m2 : Lvl), El (Rep (fun _ => False) w2 te.ty m2) te.ty.sz cls row [] := fun w2 m2 => by refine El.bare ?_ p3; intro _ _ _ h'; exact (Rep.flat hf h').2
          -- what is appended
          obtain ⟨xcells, hxv⟩ := hr.val (some (.slice te.id te.ty)) x vs cs bs hrel;rw [hrd, Leaf.as_eq has] at hxv;obtain ⟨Sx, hxr⟩ : ∃ S, Rep S w (.slice te.id te.ty) .ro [evT a.tmps x] xs [] := Y29 hxv (by simpa using hl);obtain ⟨v', w', clx, q1, q2, q3, q4, q5, q6, q7⟩ := Ybv hT ht o.type p5 hxr hb
          -- blocks
          have hnd : (B :: b1).Nodup := by rw [<- n2]; exact hrel.nodup r1 (j1 + 1)
          rw [f4] at hnd;have hmem : ∀ b ∈ B :: b1, c.base <= b /\ b < w.heap.size := fun b hb => let q := hrel.own r1 (j1 + 1) b (by show b ∈ bs r1 (j1 + 1); rw [n2]; exact hb); ⟨q.1.1, q.2⟩
          have hblm : ∀ b, u1.ownBlock = some b -> b ∈ bl := fun b hb => by rw [p2]; exact Yi.2 hb
          have hx1m : ∀ b, u1.ownBlock = some b -> b ∈ b1 := fun b hb => by rw [f4, g2]; simp [hblm b hb]
          have hBne : u1.ownBlock ≠ some B := fun hb => (X1m.1 hnd).1 (by have := hx1m B hb; rw [f4] at this; exact this);have hrow' : Rep (fun _ => False) w' (.slice te.id te.ty) .dp [v'] (row ++ xs) v'.ownBlock.toList := by
           refine ⟨v', cls ++ clx, v'.ownBlock.toList, [], rfl, by simp, ?_, rfl, by rw [Xk]; exact q2⟩;exact El.append (bs := []) (bs' := []) (p3f w' .dp) (by refine El.bare ?_ q3; intro _ _ _ h'; exact (Rep.flat hf h').2)
          let n : Leaf := ⟨.slice e t', ys, .at_ lv⟩
          let env1 := syncPlace r1 j1 n env
          have hlen1 : env1.length = env.length := Y2c _ _ _ _;have hnoP : upd noP env.length AV.undef = noP := by funext k; unfold FP.upd; split <;> rfl
          -- the two ways
          have fin2 : ∀ (w1 : World) (bs' : Nat -> Nat -> List Nat) (own : List Nat), Rel c (SS env1 noP a.tmps vs w1 cs bs') -> (∀ k, (∀ q ∈ (ovl env1 noP k).refs, q.1 < env1.length) /\ (∀ q ∈ (ovl env1 noP k).ptrs, q < env1.length)) -> bs' r1 (j1 + 1) = B :: b1 ->
            Below w1.heap.size w1 w' -> w1.cell? ⟨B, i1.toNat * t'.sz + o1, none⟩ = some u1 -> (∀ b ∈ own, w1.heap.size <= b /\ b < w'.heap.size) -> own.Nodup ->
            (own = v'.ownBlock.toList \/ (own = [] /\ u1.ownBlock = v'.ownBlock)) -> o.wp P a w next Q := by
           intro w1 bs' own hrel1 hno1 hbs1 hbel1 hcell1 hown1 hown2 hown3;have hq0 : ((SS env1 noP a.tmps vs w1 cs bs').env env.length).quiet = true := by show (ovl env1 noP env.length).quiet = true; rw [Yn (by omega)]; rfl
           have hres := hrel1.setNew hq0 hbel1 (.grow r1 j1 i1 o1 ⟨.slice te.id te.ty, row ++ xs, .at_ .dp⟩) v' [] (fun l => if l = 0 then own else [])
            (fun l b hb => by
             split at hb
             ·exact hown1 b hb
             ·simp at hb)
            (fun l l' b h1 h2 => by
             split at h1
             ·split at h2
              ·omega
              ·simp at h2
             ·simp at h1)
            (fun l => by split; exact hown2; exact X10)
            (by
             intro s' hkp hpl _;have eb : s'.bs env.length = fun l => if l = 0 then own else [] := Y0 _ _ _
             have ho1 : OwnPlace (SS env1 noP a.tmps vs w1 cs bs') r1 j1 n (.slice (some ⟨B, 0, none⟩) ys.length cp) :=
              ⟨by show (ovl env1 noP r1).leaf? j1 = _; rw [Y8 (by omega)]; exact Y84 hq, Y6q hlv, n1⟩
             have hlt1 : ∀ b ∈ B :: b1, b < w1.heap.size := fun b hb => (hrel1.own r1 (j1 + 1) b (by show b ∈ bs' r1 (j1 + 1); rw [hbs1]; exact hb)).2;have hw1 : WrRel0 c (SS env1 noP a.tmps vs w1 cs bs') ⟨B, i1.toNat * t'.sz + o1, none⟩ r1 j1 [] i1 o1 :=
              ⟨⟨.inr (by show B ∈ bs' r1 (j1 + 1); rw [hbs1]; simp), hlt1 B (by simp)⟩, n, _, ho1, (fun _ => ⟨e, t', ys, _, B, _, cp, rfl, rfl, hi.1, hin, rfl⟩), fun _ _ _ e => by cases e⟩
             have hsp := hpl r1 j1 _ _ ho1;obtain ⟨k1, k2⟩ := hw1.keep hkp hsp;refine ⟨fun k => by rw [eb]; exact X6 (by omega), ⟨te.id, te.ty, rfl, hf⟩, hrow', _, u1, k2, (X14 k1).trans hcell1, ?_⟩;rw [eb];rcases hown3 with h3 | ⟨h3, h4⟩
             ·exact .inl h3
             ·refine .inr ⟨h3, h4, fun b hb => ?_⟩;have hbm : b ∈ B :: b1 := X2 _ (hx1m b (h4.trans hb));have hw2 : WrRel0 c (SS env1 noP a.tmps vs w1 cs bs') ⟨b, 0, none⟩ r1 j1 [(i1, o1), (0, 0), (0, 0)] 0 0 :=
               ⟨⟨.inr (by show b ∈ bs' r1 (j1 + 1); rw [hbs1]; exact hbm), hlt1 b hbm⟩, n, _, ho1, (fun h => by simp at h), fun _ _ _ h => by simp at h⟩
              exact (hw2.keep hkp hsp).2)
           have hRP : RP c env1 a.tmps w' (upd noP env.length (.grow r1 j1 i1 o1 ⟨.slice te.id te.ty, row ++ xs, .at_ .dp⟩)) (upd vs env.length v') := by
            refine ⟨by rw [hlen1]; exact hlen, _, _, Rel.congr hres (Yb (by omega) _).symm (Yv (by omega) v').symm, fun k => ?_⟩;rw [Yb (by omega)];by_cases hk : k = env.length
            ·subst hk;rw [Y0];exact ⟨fun q hq' => by simp only [AV.refs, X9] at hq'; rw [hq']; show r1 < env1.length; omega, by simp [AV.ptrs]⟩
            ·rw [Y1 _ _ hk]; exact hno1 k
           rw [<- hlen1] at hRP;have hargs' : cl.args = #[.tmp s0, x] := by rw [<- X1g (xs := cl.args), hargs]
           have htys' : cl.argTypes = #[t, t] := by rw [<- X1g (xs := cl.argTypes), htys]
           refine fin hdst (v := v') (w' := w') ?_ (by rw [hlen1]; exact hd) hlen1 hRP (by exact Y0 _ _ _) hK hn;rw [<- hu1] at q1;simp [execOp, hop, resolve, hc, hargs', htys', invoke, builtin, Y5, q1]
          rcases q5 with hwh | hwh
          ·-- the row stays where it is
           have hbel : Below c.base w w' := ⟨q4.os, q4.tape, q4.output, q4.size, fun k hk => q4.block k (by have := hrel.base; show k < w.heap.size; exact X1a hk this) (fun e => by
            have := (hmem k (X2 _ (hx1m k e.symm))).1;omega)⟩
           have hother : ∀ b, b < w.heap.size -> u1.ownBlock ≠ some b -> w'.heap[b]? = w.heap[b]? := fun b hb hne => q4.block b hb (fun e => hne e.symm);have hnd1 := (X1m.1 hnd).2;have hx0x2 : ∀ b ∈ x0 ++ x2, u1.ownBlock ≠ some b := fun b hb e => by
            have h1 : b ∈ x1 := by rw [g2]; simp [hblm b e]
            rw [X7] at hnd1;rcases X4.1 hb with h | h
            ·exact (Xq.1 hnd1).2.2 b h b (Xb _ h1) rfl
            ·exact (Xq.1 (Xq.1 hnd1).2.1).2.2 b h1 b h rfl
           have hbAB : ∀ b ∈ bA ++ bB, u1.ownBlock ≠ some b := fun b hb e => by
            have h1 := hblm b e;have h2 : (bA ++ bl ++ bB).Nodup := by
             rw [<- g2];rw [X7] at hnd1;exact (Xq.1 (Xq.1 hnd1).2.1).1
            rw [X7] at h2;rcases X4.1 hb with h | h
            ·exact (Xq.1 h2).2.2 b h b (Xb _ h1) rfl
            ·exact (Xq.1 (Xq.1 h2).2.1).2.2 b h1 b h rfl
           have hlt : ∀ b ∈ x0 ++ x1 ++ x2, b < w.heap.size := fun b hb => (hmem b (X2 _ (by rw [f4]; exact hb))).2;obtain ⟨y, y1', y2⟩ := g4 (fun _ => False) w' u1 ⟨.slice te.id te.ty, row, .at_ .dp⟩ bl rfl (by
            rw [p2];exact ⟨u1, cls, u1.ownBlock.toList, [], rfl, by simp, p3f w' .dp, rfl, q6⟩) (fun _ h => h.elim) (fun b hb => hother b (hlt b (by
             rw [g2];simp only [X4] at hb ⊢;rcases hb with h | h <;> simp [h])) (hbAB b hb))
           have hy : y = ys[i1.toNat] := by
            have := Y3f t' (l := ⟨.slice te.id te.ty, row, .at_ .dp⟩) hleaf rfl HEq.rfl;rw [this] at y1';exact (Xr y1').symm
           have hch : ch.set o1 u1 = ch := by
            apply X29;intro k;rw [List.getElem?_set];split
            ·rename_i hk;subst hk;split
             ·exact g1.symm
             ·omega
            ·rfl
           rw [hy, hch, <- g2] at y2;have hel' := f6 (Rep (fun _ => False) w' t' .dp) (fun c' x' b' hb' h' => Rep.move (fun _ h => h.elim) (fun b hb => hother b (hlt b (by
            have := hb' b hb;simp only [X4] at this ⊢;rcases this with h | h <;> simp [h])) (hx0x2 b (hb' b hb))) h') ch ys[i1.toNat] x1 f3 y2
           rw [<- f1, <- f4, List.set_getElem_self] at hel';obtain ⟨bs', k1, k2, k3⟩ := RP.syncAt hlen hrel hno (m := env.length) (fun k _ => .inl rfl) (Xh _) hq hlv (y := ys) n1 (bd := B :: b1) hbel (fun b hb hb1 _ => hother b hb (fun e => hb1 (by rw [n2]; exact X2 _ (hx1m b e))))
            (fun b hb => ⟨X1a (hmem b hb).2 q4.size, .inr (.inl (by rw [n2]; exact hb))⟩) (by rw [f4]; exact hnd)
            ⟨_, cells, [B], b1, rfl, rfl, hel', rfl, Y1z n4 (fun k hk => by
             have : B = k := by simpa [Value.ownBlock] using hk
             subst this;exact hother B (hmem B (by simp)).2 hBne)⟩
           rw [hnoP] at k1 k2;refine fin2 w' bs' [] k1 k2 k3 (X1b _ _) ((X14 (hother B (hmem B (by simp)).2 hBne)).trans hcell) (by simp) X10 (.inr ⟨rfl, hwh.symm⟩)
          ·-- a new row
           have hold : ∀ b, b < w.heap.size -> w'.heap[b]? = w.heap[b]? := fun b hb => by
            by_cases hk : u1.ownBlock = some b
            ·exact q7 hwh b hk
            ·exact q4.block b hb (fun e => hk e.symm)
           have hvlt : w.heap.size < w'.heap.size := (Y1g q2 _ hwh).2;obtain ⟨bs', k1, k2, k3⟩ := RP.syncAt hlen hrel hno (m := env.length) (fun k _ => .inl rfl) (Xh _) hq hlv (y := ys) (w' := w) n1 (bd := B :: b1) (X1b _ _) (fun b hb hb1 _ => rfl)
            (fun b hb => ⟨(hmem b hb).2, .inr (.inl (by rw [n2]; exact hb))⟩) (by rw [f4]; exact hnd)
            ⟨_, cells, [B], b1, rfl, rfl, n3, rfl, n4⟩
           rw [hnoP] at k1 k2;refine fin2 w bs' [w.heap.size] k1 k2 k3 ⟨q4.os, q4.tape, q4.output, q4.size, hold⟩ hcell (fun b hb => by rw [X9.1 hb]; exact ⟨Xh _, hvlt⟩) (by simp) (.inl (by rw [hwh]; rfl))
         ·simp at hs
        ·simp at hs
       ·simp at hK
      ·simp at hK
     ·simp at hK
    ·simp at hK
   ·simp at hK
  ·simp at hK
 ·simp at hK
end
theorem Y2x : ∀ (t : Ty) {x y : t.D} {o : Nat} {l : Leaf}, updLeafD t x o l = some y -> ∃ q, leafD t x o = some q /\ l.t = q.1
 | .int k, x, y, o, l, h => by
  simp only [updLeafD] at h;split at h
  ·rename_i ho;have := Leaf.as_eq h;exact ⟨⟨.int k, x⟩, by simp [leafD, ho], by rw [this]⟩
  ·simp at h
 | .bool, x, y, o, l, h => by
  simp only [updLeafD] at h;split at h
  ·rename_i ho;have := Leaf.as_eq h;exact ⟨⟨.bool, x⟩, by simp [leafD, ho], by rw [this]⟩
  ·simp at h
 | .str, x, y, o, l, h => by
  simp only [updLeafD] at h;split at h
  ·rename_i ho;have := Leaf.as_eq h;exact ⟨⟨.str, x⟩, by simp [leafD, ho], by rw [this]⟩
  ·simp at h
 | .slice e t, x, y, o, l, h => by
  simp only [updLeafD] at h;split at h
  ·rename_i ho;have := Leaf.as_eq h;exact ⟨⟨.slice e t, x⟩, by simp [leafD, ho], by rw [this]⟩
  ·simp at h
 | .unit, x, y, o, l, h => by simp [updLeafD] at h
 | .pair a b, x, y, o, l, h => by
  simp [updLeafD] at h;split at h
  ·rename_i ho;split at h
   ·rename_i z hz;obtain ⟨q, h1, h2⟩ := Y2x a hz;exact ⟨q, by simp [leafD]; rw [X3 ho]; exact h1, h2⟩
   ·simp at h
  ·rename_i ho;split at h
   ·rename_i z hz;obtain ⟨q, h1, h2⟩ := Y2x b hz;exact ⟨q, by simp [leafD]; rw [X6 ho]; exact h1, h2⟩
   ·simp at h
theorem Ybx {bs : List Nat} {l : Leaf} (hl : l.t = .slice e t) (h : Rep S w l.t lv [v] l.x bs) : v.cells = #[v] := by
 obtain ⟨lt, lx, lm⟩ := l;subst hl;obtain ⟨v0, _, _, _, p1, _, _, p4⟩ := h;obtain ⟨A, cc, e3, _⟩ := RowRep.slice p4;have : v = v0 := by simpa using p1
 rw [this, e3]; rfl
section
variable {P : Program} {o : Oper} {a : Act} {w : World} {R : Type} {K : Env -> Option R} {r0 : R} {next : Act -> World -> Prop} {Q : Exit -> Act -> World -> Prop} {c : Cx} {d : Nat} {T : Tab} {env : Env}
theorem Y9r (hT : TabOk P T) {t : TypeId} {x v : Operand} {s r j oo : Nat} {i : Int} {l : Leaf} (hop : o.op = .store t x v) (hdst : o.dst = none) (hr : RE c env a.tmps w) (hg : growOf env v = some (s, r, j, i, oo, l)) (ht : T.ty t = some l.t)
  (hK : storeGrow s r j i oo l x env K = some r0) (hn : Next c a K r0 env.length next) : o.wp P a w next Q := by
 unfold growOf at hg;split at hg
 ·rename_i s1;split at hg
  ·rename_i r1 j1 i1 o1 l1 hgs;simp only [X0, Xy] at hg;obtain ⟨rfl, rfl, rfl, rfl, rfl, rfl⟩ := hg;unfold storeGrow at hK;split at hK
   ·rename_i le r2 j2 i2 o2 hx;split at hK
    ·rename_i he;obtain ⟨rfl, rfl, rfl⟩ := he;split at hK
     ·rename_i e t' ys lv hq;split at hK
      ·rename_i hlv;have hi : i2 = i1 /\ 0 <= i2 /\ i2 < (ys.length : Int) := by
        apply Xu;intro h';have : (decide (i2 = i1) && (decide (0 <= i2) && decide (i2 < (ys.length : Int)))) = false := by
         rw [X2h, X2h, X1c, X1c, X1c]; omega
        rw [this] at hK; simp at hK
       rw [X21 hi.1, X21 hi.2.1, X21 hi.2.2] at hK;obtain ⟨rfl, hi0, hi1⟩ := hi;have hin : i2.toNat < ys.length := by omega
       have hgetD : ys.getD i2.toNat t'.dflt = ys[i2.toNat] := by simp [hin]
       rw [hgetD] at hK
       replace hK : (match updLeafD t' ys[i2.toNat] o2 l1 with
        | some y => K (syncPlace r2 j2 ⟨.slice e t', ys.set i2.toNat y, .at_ lv⟩ (put env s1 .undef))
        | none => none) = some r0 := hK
       split at hK
       ·rename_i y hy;obtain ⟨vs, hlen, cs, bs, hrel, hno⟩ := hr;have hr : RE c env a.tmps w := ⟨vs, hlen, cs, bs, hrel, hno⟩;have hsl : s1 < env.length := by
         apply Xu;intro hn';rw [Y1c env s1 (X1n hn')] at hgs;simp at hgs
        have hrl : r2 < env.length := Y1b hq;have hrs : r2 ≠ s1 := fun h => by subst h; rw [hgs] at hq; simp [AV.leaf?] at hq
        let N := env.length
        -- what grew
        have es : (SS env noP a.tmps vs w cs bs).env s1 = .grow r2 j2 i2 o2 l1 := by show ovl env noP s1 = _; rw [Y8 hsl]; exact hgs
        have et : (SS env noP a.tmps vs w cs bs).tm s1 = a.tmps.getD s1 undef := X3 (hlen ▸ hsl);have hgr := hrel.av s1;rw [es, et] at hgr;obtain ⟨h1, ⟨e1, t1, hl1, hf⟩, hv, ad, u2, hwr, hcu, halt⟩ := hgr;have hcu : w.cell? ad = some u2 := hcu
        let v' := a.tmps.getD s1 undef
        have hv : Rep (fun _ => False) w l1.t .dp [v'] l1.x v'.ownBlock.toList := hv;have halt : bs s1 0 = v'.ownBlock.toList \/ (bs s1 0 = [] /\ u2.ownBlock = v'.ownBlock /\ ∀ b, v'.ownBlock = some b -> WrRel0 c (SS env noP a.tmps vs w cs bs) ⟨b, 0, none⟩ r2 j2 [(i2, o2), (0, 0), (0, 0)] 0 0) := halt;obtain ⟨B, cp, cells, b1, n1, n2, n3, n4⟩ := Y4t hrel hlv hq (by omega)
        -- both addresses are the one
        have spot : ∀ ad', WrRel0 c (SS env noP a.tmps vs w cs bs) ad' r2 j2 [] i2 o2 -> ad' = ⟨B, i2.toNat * t'.sz + o2, none⟩ := by
         intro ad' hw;obtain ⟨_, lf, u, ⟨k1, _, k3⟩, k4⟩ := hw;obtain ⟨e', t'', xs', m', B', n', cp', m1, m2, _, _, m5⟩ := k4.1 rfl;have k1 : (ovl env noP r2).leaf? j2 = some lf := k1;rw [Y8 hrl, hq, m1] at k1;simp only [X0, Leaf.mk.injEq, Ty.slice.injEq] at k1;obtain ⟨⟨rfl, rfl⟩, _, _⟩ := k1;have k3 : (cs r2)[j2]? = some u := k3;rw [n1, m2] at k3;simp only [X0, Value.slice.injEq, X2m, and_true] at k3;obtain ⟨rfl, _, _⟩ := k3;exact m5
        have hadd := spot ad hwr;subst hadd;have hxv : evT a.tmps x = .pointer (some ⟨B, i2.toNat * t'.sz + o2, none⟩) := by
         obtain ⟨cells', hv'⟩ := Yh hlen hrel none x;rw [hx] at hv';obtain ⟨ad', ea, _, hw⟩ := hv';rw [ea, spot ad' hw]
        obtain ⟨pre, ch, post, x0, x1, x2, f1, f2, f3, f4, f5, f6⟩ := El.at2 i2.toNat hin n3;have f5 : Rep (fun _ => False) w t' .dp ch ys[i2.toNat] x1 := f5;obtain ⟨q, hleaf, hlq⟩ := Y2x t' hy;obtain ⟨u1, bA, bl, bB, g1, g2, g3, g4⟩ := Rep.leafAt t' f5 hleaf;have hoo : o2 < t'.sz := by
         have := (X5.1 g1).1;omega
        have hcell : w.cell? ⟨B, i2.toNat * t'.sz + o2, none⟩ = some u1 := by
         refine Y6t n4 ?_;rw [f1, X7, Xe (by omega), Xo (by omega), f2, show i2.toNat * t'.sz + o2 - i2.toNat * t'.sz = o2 by omega];exact g1
        have hu12 : u2 = u1 := by rw [hcell] at hcu; exact (Xr hcu).symm
        subst hu12
        -- the old row's blocks
        have hbl : bl = u2.ownBlock.toList := by
         obtain ⟨q1, q2⟩ := q;simp only at hlq;rw [hl1] at hlq;subst hlq;obtain ⟨v0, cls, c0, c1, p1, p2, p3, p4, _⟩ := g3;obtain rfl : u2 = v0 := by simpa using p1
         have hc1 : c1 = [] := El.noB (fun c' x' b' h' => (Rep.flat (S' := fun _ => False) (w' := w) (m' := .ro) hf h').1) p3;rw [p2, hc1, Xf, p4]
        -- blocks
        have hnd : (B :: b1).Nodup := by rw [<- n2]; exact hrel.nodup r2 (j2 + 1)
        have hmem : ∀ b ∈ B :: b1, c.base <= b /\ b < w.heap.size := fun b hb => let q := hrel.own r2 (j2 + 1) b (by show b ∈ bs r2 (j2 + 1); rw [n2]; exact hb); ⟨q.1.1, q.2⟩
        let bl' := v'.ownBlock.toList
        have hbl'd : ∀ b ∈ bl', (b ∈ bs s1 0 /\ b ∉ B :: b1) \/ (bl' = bl) := by
         intro b hb;rcases halt with h | ⟨_, h, _⟩
         ·left;have hb' : b ∈ bs s1 0 := by rw [h]; exact hb
          exact ⟨hb', fun hm => hrs (hrel.disj r2 (j2 + 1) s1 0 b (by show b ∈ bs r2 (j2 + 1); rw [n2]; exact hm) hb').1⟩
         ·right; rw [hbl, h]
        have hblm : ∀ b ∈ bl, b ∈ b1 := fun b hb => by rw [f4, g2]; simp [hb]
        have hBbl' : B ∉ bl' := fun hb => by
         rcases hbl'd B hb with ⟨_, h⟩ | h
         ·exact h (by simp)
         ·exact (X1m.1 hnd).1 (hblm B (by rw [<- h]; exact hb))
        have hlt' : ∀ b ∈ bl', b < w.heap.size := fun b hb => Rep.lt hv b hb
        let bd := B :: (x0 ++ (bA ++ bl' ++ bB) ++ x2)
        have hbdm : ∀ b ∈ bd, b ∈ B :: b1 \/ b ∈ bs s1 0 := by
         intro b hb;rcases Xs.1 hb with rfl | hb
         ·exact .inl (by simp)
         ·rw [f4, g2];simp only [X4, Xs] at hb ⊢;rcases hb with (hb | (hb | hb) | hb) | hb
          ·simp [hb]
          ·simp [hb]
          ·rcases hbl'd b hb with ⟨h, _⟩ | h
           ·exact .inr h
           ·rw [h] at hb; simp [hb]
          ·simp [hb]
          ·simp [hb]
        have hbdnd : bd.Nodup := by
         rcases halt with h | ⟨_, h, _⟩
         ·have k1 : bl'.Nodup := by have := hrel.nodup s1 0; have e : (SS env noP a.tmps vs w cs bs).bs s1 0 = bl' := h; rw [<- e]; exact this
          have k2 : ∀ b ∈ bl', b ∉ B :: b1 := fun b hb hm => hrs (hrel.disj r2 (j2 + 1) s1 0 b (by show b ∈ bs r2 (j2 + 1); rw [n2]; exact hm) (by show b ∈ bs s1 0; rw [h]; exact hb)).1;have hnd' : (B :: (x0 ++ (bA ++ bl ++ bB) ++ x2)).Nodup := by rw [<- g2, <- f4]; exact hnd
          have k3 : ∀ b ∈ bl', b ≠ B /\ b ∉ x0 /\ b ∉ bA /\ b ∉ bB /\ b ∉ x2 := fun b hb => by
           have := k2 b hb;rw [f4, g2] at this;simp only [Xs, X4, X33] at this;exact ⟨this.1, this.2.1.1, this.2.1.2.1.1, this.2.1.2.2, this.2.2⟩
          have p0 : (bl' ++ (B :: (x0 ++ (bA ++ bB) ++ x2))).Nodup := by
           refine Xq.2 ⟨k1, hnd'.sublist ?_, fun b hb b' hb' e => ?_⟩
           ·refine List.Sublist.cons_cons _ (X1v (X1v (X1y _) (X1v ?_ (X1y _))) (X1y _));exact List.sublist_append_left _ _
           ·subst e;obtain ⟨a1, a2, a3, a4, a5⟩ := k3 b hb;simp only [Xs, X4] at hb';rcases hb' with h | (h | h | h) | h
            ·exact a1 h
            ·exact a2 h
            ·exact a3 h
            ·exact a4 h
            ·exact a5 h
          refine (List.Perm.nodup_iff ?_).1 p0;show (bl' ++ B :: (x0 ++ (bA ++ bB) ++ x2)).Perm (B :: (x0 ++ (bA ++ bl' ++ bB) ++ x2));refine (List.perm_middle).trans (List.Perm.cons _ ?_);simp only [X7];refine (List.perm_append_comm_assoc _ _ _).trans (List.Perm.append_left _ ?_);exact List.perm_append_comm_assoc _ _ _
         ·have : bl' = bl := by rw [hbl, h]
          show (B :: (x0 ++ (bA ++ bl' ++ bB) ++ x2)).Nodup;rw [this, <- g2, <- f4];exact hnd
        -- the block
        obtain ⟨cur, hgB, hcm, hcs, htk, hnc⟩ : ∃ cur, w.heap[B]? = some (.cells cur e (0, 0)) /\ cp <= maxLen /\ cur.size = cp * t'.sz /\ cur.toList.take (ys.length * t'.sz) = cells /\ ys.length <= cp := by
         rcases n4.2 with ⟨h', _⟩ | ⟨g', cap', cur, h', _, hg, hnc, hcm, hcs, htk⟩
         ·simp at h'
         ·simp only [Value.slice.injEq, X0, X2m, and_true, true_and] at h';obtain ⟨rfl, rfl⟩ := h';exact ⟨cur, hg, hcm, hcs, htk, hnc⟩
        let off := i2.toNat * t'.sz + o2
        let cur' : Array Value := (cur.toList.take off ++ [v'] ++ cur.toList.drop (off + 1)).toArray
        let w' := w.setRow B cur'
        have hother : ∀ b, b ≠ B -> w'.heap[b]? = w.heap[b]? := fun b hb => setRow_other w B b _ hb;have hsame : w'.heap[B]? = some (.cells cur' e (0, 0)) := setRow_heap w B _ _ e (0, 0) hgB;have hsz : w'.heap.size = w.heap.size := setRow_size _ _ _;have hcl : cells.length = ys.length * t'.sz := n3.len;have hoffl : off + 1 <= cells.length := by
         rw [f1]; simp only [Xk, off]; omega
        have hoff : off + 1 <= cur.toList.length := by
         have : cells.length <= cur.toList.length := by rw [<- htk, Xi]; exact Nat.min_le_right _ _
         omega
        have hb1B : ∀ b ∈ b1, b ≠ B := fun b hb e => (X1m.1 hnd).1 (e ▸ hb);have hv' : Rep (fun _ => False) w' l1.t .dp [v'] l1.x bl' := Rep.move (fun _ h => h.elim) (fun b hb => hother b (fun e => hBbl' (e ▸ hb))) hv;obtain ⟨y', y1, y2⟩ := g4 (fun _ => False) w' v' l1 bl' hlq hv' (fun _ h => h.elim) (fun b hb => hother b (hb1B b (by
         rw [f4, g2];simp only [X4] at hb ⊢;rcases hb with h | h <;> simp [h])))
        rw [hy] at y1;obtain rfl := Xr y1;have hel' := f6 (Rep (fun _ => False) w' t' .dp) (fun c' x' b' hb' h' => Rep.move (fun _ h => h.elim) (fun b hb => hother b (hb1B b (by
         rw [f4];have := hb' b hb;simp only [X4] at this ⊢;rcases this with h | h <;> simp [h]))) h') (ch.set o2 v') y (bA ++ bl' ++ bB) (by rw [X15]; exact f3) y2
        have hcells : pre ++ ch.set o2 v' ++ post = cells.take off ++ [v'] ++ cells.drop (off + 1) := by
         have hlt : o2 < ch.length := by omega
         rw [List.set_eq_take_append_cons_drop, X3 hlt];have := Y82 pre ch post [v'] o2 (by simp; omega);simp only [X26] at this;rw [show ch.take o2 ++ v' :: ch.drop (o2 + 1) = ch.take o2 ++ [v'] ++ ch.drop (o2 + 1) by simp, this, f1, f2]
        rw [hcells] at hel'
        -- s1 goes on its way
        have hq0 : ((SS env noP a.tmps vs w cs bs).env N).quiet = true := by show (ovl env noP N).quiet = true; rw [Yn (Xh _)]; rfl
        have hmv := hrel.move (s0 := s1) (d := N) (X1e hsl) hq0 (fun p => by
         obtain ⟨k1, k2⟩ := (hrel.av p).refs_own;refine ⟨fun q hq' e => ?_, fun q hq' e => ?_⟩
         ·obtain ⟨lf, u, o1, _⟩ := k1 q hq';rw [e, es] at o1;simp [AV.leaf?] at o1
         ·obtain ⟨off, vv, e', ls, B', o1, _⟩ := k2 q hq';rw [e, es] at o1;simp at o1)
        rw [es, et] at hmv
        let env1 := put env s1 .undef
        have hlen1 : env1.length = env.length := Y6 _ _ _;have hrelP : Rel c (SS env1 (upd noP N (.grow r2 j2 i2 o2 l1)) a.tmps (upd vs N v') w (upd cs N (cs s1)) (upd (upd bs s1 (fun _ => [])) N (bs s1))) :=
         Rel.congr hmv (by rw [Yb (X39 hlen1), Yr hsl]) (Yv (X39 hlen.symm) v').symm
        have hnoP1 : ∀ k, (∀ q ∈ (ovl env1 (upd noP N (.grow r2 j2 i2 o2 l1)) k).refs, q.1 < env1.length) /\ (∀ q ∈ (ovl env1 (upd noP N (.grow r2 j2 i2 o2 l1)) k).ptrs, q < env1.length) := by
         intro k;rw [Yb (X39 hlen1), Yr hsl, hlen1];by_cases hk : k = N
         ·subst hk;rw [Y0];exact ⟨fun q hq' => by simp only [AV.refs, X9] at hq'; rw [hq']; exact hrl, by simp [AV.ptrs]⟩
         ·rw [Y1 _ _ hk];by_cases hk2 : k = s1
          ·subst hk2; rw [Y0]; exact ⟨by simp [AV.refs], by simp [AV.ptrs]⟩
          ·rw [Y1 _ _ hk2]; exact hno k
        have hq1 : (get env1 r2).leaf? j2 = some ⟨.slice e t', ys, .at_ lv⟩ := by
         show (get (put env s1 .undef) r2).leaf? j2 = _;rw [Y2i hsl, Y1 _ _ hrs]; exact hq
        have hrN : r2 ≠ N := X1e hrl;have ebr : upd (upd bs s1 (fun _ => [])) N (bs s1) r2 = bs r2 := by rw [Y1 _ _ hrN, Y1 _ _ hrs]
        have ebN : upd (upd bs s1 (fun _ => [])) N (bs s1) N = bs s1 := Y0 _ _ _;obtain ⟨bs', k1, k2, _⟩ := RP.syncAt (by rw [hlen1]; exact hlen) hrelP hnoP1 (m := N) (fun k hk => .inl (by rw [Y1 _ _ hk]; rfl)) (X39 hlen1) hq1 hlv (y := ys.set i2.toNat y) (w' := w') (u := .slice (some ⟨B, 0, none⟩) ys.length cp) (by rw [Y1 _ _ hrN]; exact n1) (bd := bd)
         (below_setRow (X1b _ _) (hmem B (by simp)).1 _) (fun b hb hb1 _ => hother b (fun e => hb1 (by rw [ebr, n2, e]; simp)))
         (fun b hb => ⟨by
          rw [hsz];rcases hbdm b hb with h | h
          ·exact (hmem b h).2
          ·exact (hrel.own s1 0 b h).2, by
          rcases hbdm b hb with h | h
          ·exact .inr (.inl (by rw [ebr, n2]; exact h))
          ·exact .inr (.inr ⟨0, by rw [ebN]; exact h⟩)⟩) hbdnd
         ⟨.slice (some ⟨B, 0, none⟩) ys.length cp, cells.take off ++ [v'] ++ cells.drop (off + 1), [B], x0 ++ (bA ++ bl' ++ bB) ++ x2, rfl, rfl, hel', rfl, by
          rw [X15];refine ⟨?_, .inr ⟨B, cp, cur', rfl, X2n _, hsame, hnc, hcm, ?_, ?_⟩⟩
          ·simp only [Xk, Xi, X11, X26]; omega
          ·rw [<- hcs];simp only [cur', X36, Xk, Xi, X11, X26, X12] at hoff ⊢;omega
          ·rw [<- htk];exact Y6s _ [v'] _ _ (by rw [hcl] at hoffl; simpa using hoffl) (by rw [<- hcl, <- htk, Xi]; exact Nat.min_le_right _ _)⟩
        refine Y3z hdst (w' := w') ?_ (by rw [Y2c]; exact hlen1) ⟨by rw [Y2c, hlen1]; exact hlen, _, _, k1, k2⟩ (fun k => ?_) hK hn
        ·have hsize := TabOk.sizeOf hT ht;rw [hl1] at hsize;have hv1 : v'.oneCell' = true := Rep.one hv v' (by simp);have hvc : v'.cells = #[v'] := Ybx hl1 hv;have hst := run_storeCells_at P B off e [v'] 0 cur w hgB (by simpa using hoff) (by simpa using hv1);rw [X2c] at hst;have hev : evT a.tmps (.tmp s1) = v' := rfl;simp [execOp, hop, Y5, hxv, hev, Instr.storeAt, Instr.sureAddr, storeVar, hsize, hvc, Ty.sz];rw [show Sem.run P (storeCells { block := B, off := i2.toNat * t'.sz + o2 } [v']) w = .ok () w' from hst];rfl
        ·by_cases hk : k = N
         ·subst hk; rw [Y0]
         ·rw [Y1 _ _ hk, Y1 _ _ hk]; rfl
       ·simp at hK
      ·simp at hK
     ·simp at hK
    ·simp at hK
   ·simp at hK
  ·simp at hg
 ·simp at hg
end
abbrev Places := List (Nat × Nat × Leaf)
theorem Y1v (L : Places) (r : Nat) : ∀ (k : Nat) (ls : List Leaf) (l : Nat), (renewLs L r k ls)[l]? = (ls[l]?).map fun lf => (lookM L r (k + l)).getD lf
 | k, [], l => by simp [renewLs]
 | k, u :: ls, 0 => by simp [renewLs]
 | k, u :: ls, l + 1 => by simp [renewLs, Y1v L r (k + 1) ls l, X28, Nat.add_comm 1 l]
theorem Y2y (L : Places) (r : Nat) : ∀ (k : Nat) (ls : List Leaf), (renewLs L r k ls).length = ls.length
 | k, [] => rfl
 | k, u :: ls => by simp [renewLs, Y2y L r (k + 1) ls]
theorem Y5e (L : Places) : ∀ (k : Nat) (env : Env) (r : Nat), get (renewEnv L k env) r = (get env r).renew L (k + r)
 | k, [], r => by simp [renewEnv, get, AV.renew]
 | k, u :: env, 0 => by simp [renewEnv, get]
 | k, u :: env, r + 1 => by simp [renewEnv, get, Y5e L (k + 1) env r, X28, Nat.add_comm 1 r]
theorem Y48 (L : Places) : ∀ (k : Nat) (env : Env), (renewEnv L k env).length = env.length
 | k, [] => rfl
 | k, u :: env => by simp [renewEnv, Y48 L (k + 1) env]
theorem Y21 (L : Places) (env : Env) : (syncs L env).length = env.length := by unfold syncs; rw [Y48, Y7]
theorem Ycz (L : Places) (env : Env) (r : Nat) : get (syncs L env) r = ((get env r).chg (syncsG L)).renew L r := by unfold syncs; rw [Y5e, Y11, X13]
theorem Yby {L : Places} {r : Nat} (h : ∀ j, lookM L r j = none) (v : AV) : v.renew L r = v := by
 cases v with
 | con k ls =>
  simp only [AV.renew, AV.con.injEq, true_and];apply X29;intro l;rw [Y1v, h];cases ls[l]? <;> rfl
 | _ => rfl
theorem Yas (L : Places) : Fewer (syncsG L) := fun r j p l => by
 simp [syncsG];split
 ·cases p with
  | nil => exact .inr rfl
  | cons a p => exact .inl rfl
 ·exact .inr rfl
theorem Ybz {L : Places} (hL : ∀ q j n, lookM L q j = some n -> ∃ lv, n.m = .at_ lv) (r : Nat) (v : AV) : (∀ z ∈ (v.renew L r).refs, z ∈ v.refs) /\ (∀ z ∈ (v.renew L r).ptrs, z ∈ v.ptrs) := by
 cases v with
 | con k ls =>
  refine ⟨fun z hz => ?_, fun z hz => hz⟩;simp only [AV.renew, AV.refs, Xj] at hz ⊢;obtain ⟨lf, hlf, hz⟩ := hz;obtain ⟨l, hl⟩ := Xz hlf;rw [Y1v] at hl;obtain ⟨lf0, hl0, rfl⟩ := Xv.1 hl;cases hk : lookM L r (0 + l) with
  | none => grind
  | some n =>
   rw [hk] at hz;obtain ⟨lv, hm⟩ := hL _ _ _ hk;obtain ⟨t, x, m⟩ := n;subst hm;simp [Leaf.refs] at hz
 | _ => exact ⟨fun z hz => hz, fun z hz => hz⟩
theorem RP.syncsAt (hlen : env.length = tmps.size) (hrel : Rel c (SS env noP tmps vs w cs bs)) (hno : ∀ r, (∀ q ∈ (ovl env noP r).refs, q.1 < env.length) /\ (∀ q ∈ (ovl env noP r).ptrs, q < env.length)) {L : Places} (hL : ∀ q j n, lookM L q j = some n -> ∃ x lv, (get env q).leaf? j = some ⟨n.t, x, .at_ lv⟩ /\ n.m = .at_ lv /\ lv.deep = true) (hbel : Below c.base w w')
  (hheap : ∀ b, b < w.heap.size -> (∀ q j n, lookM L q j = some n -> b ∉ bs q (j + 1)) -> w'.heap[b]? = w.heap[b]?)
  (bd : Nat -> Nat -> List Nat)
  (hbd1 : ∀ q j n, lookM L q j = some n -> ∀ b ∈ bd q j, b < w'.heap.size /\ (w.heap.size <= b \/ ∃ q' j' n', lookM L q' j' = some n' /\ b ∈ bs q' (j' + 1)))
  (hbd2 : ∀ q j n, lookM L q j = some n -> (bd q j).Nodup)
  (hbd3 : ∀ q j n q' j' n' b, lookM L q j = some n -> lookM L q' j' = some n' -> b ∈ bd q j -> b ∈ bd q' j' -> q = q' /\ j = j')
  (hrep : ∀ q j n u, lookM L q j = some n -> (cs q)[j]? = some u -> Rep (fun _ => False) w' n.t .dp [u] n.x (bd q j)) :
  RP c (syncs L env) tmps w' noP vs := by
 let g : Chg := syncsG L
 let s : St := SS env noP tmps vs w cs bs
 let bs' : Nat -> Nat -> List Nat := fun p l => match l with
  | 0 => bs p 0
  | j + 1 => match lookM L p j with | some _ => bd p j | none => bs p (j + 1)
 let E : Nat -> AV := fun p => ((ovl env noP p).chg g).renew L p
 let s' : St := ⟨E, ovlT tmps vs, w', cs, bs'⟩
 let D : Nat -> Prop := fun p => ∃ j n, lookM L p j = some n
 have eb0 : ∀ p, s'.bs p 0 = bs p 0 := fun p => rfl;have ebS : ∀ {p j n}, lookM L p j = some n -> s'.bs p (j + 1) = bd p j := fun {p j n} h => by show (match lookM L p j with | some _ => bd p j | none => bs p (j + 1)) = _; rw [h]
 have ebN : ∀ {p j}, lookM L p j = none -> s'.bs p (j + 1) = bs p (j + 1) := fun {p j} h => by show (match lookM L p j with | some _ => bd p j | none => bs p (j + 1)) = _; rw [h]
 have part : ∀ p l b, b ∈ s'.bs p l -> (b ∈ bs p l /\ ∀ j, l = j + 1 -> lookM L p j = none) \/ ∃ j n, l = j + 1 /\ lookM L p j = some n /\ b ∈ bd p j := by
  intro p l b hb;cases l with
  | zero => exact .inl ⟨hb, fun j h => by omega⟩
  | succ j =>
   cases hk : lookM L p j with
   | none => rw [ebN hk] at hb; exact .inl ⟨hb, fun j' h => by rw [<- Nat.succ.inj h]; exact hk⟩
   | some n => rw [ebS hk] at hb; exact .inr ⟨j, n, rfl, hk, hb⟩
 have hsame : ∀ p, ¬ D p -> s'.env p = (s.env p).chg g /\ s'.tm p = s.tm p /\ s'.cs p = s.cs p /\ s'.bs p = s.bs p := fun p hp => by
  have hn : ∀ j, lookM L p j = none := fun j => by
   cases hk : lookM L p j with
   | none => rfl
   | some n => exact absurd ⟨j, n, hk⟩ hp
  refine ⟨Yby hn _, rfl, rfl, ?_⟩;funext l;cases l with
  | zero => rfl
  | succ j => exact ebN (hn j)
 have hne : ∀ (p i b : Nat), lookM L p i = none -> b ∈ bs p (i + 1) -> w'.heap[b]? = w.heap[b]? := fun p i b hk hb =>
  hheap b (hrel.own _ _ _ hb).2 (fun q j n hq hb2 => by
   obtain ⟨rfl, h2⟩ := hrel.disj _ _ _ _ _ hb hb2;obtain rfl : i = j := by omega
   rw [hk] at hq; simp at hq)
 have hne0 : ∀ (p b : Nat), b ∈ bs p 0 -> w'.heap[b]? = w.heap[b]? := fun p b hb =>
  hheap b (hrel.own _ _ _ hb).2 (fun q j n hq hb2 => by have := (hrel.disj _ _ _ _ _ hb hb2).2; omega)
 -- a root that is changed
 have hcon : ∀ p j n, lookM L p j = some n -> ∃ k ls0, get env p = .con k ls0 /\ p < env.length := fun p j n hk => by
  obtain ⟨x, lv, h1, _, _⟩ := hL p j n hk;cases hv : get env p with
  | con k ls => exact ⟨k, ls, rfl, Ys hv⟩
  | _ => rw [hv] at h1; simp [AV.leaf?] at h1
 have eEcon : ∀ {p k ls0}, ovl env noP p = .con k ls0 -> s'.env p = .con k (renewLs L p 0 (chgs g ls0)) := fun {p k ls0} h => by
  show ((ovl env noP p).chg g).renew L p = _;rw [h]; rfl
 have hleafN : ∀ {p i lf}, lookM L p i = none -> (s.env p).leaf? i = some lf -> lf.m.own = true -> (s'.env p).leaf? i = some lf := fun {p i lf} hk h1 h2 => by
  have h1 : (ovl env noP p).leaf? i = some lf := h1;cases hv : ovl env noP p with
  | con k ls =>
   rw [hv] at h1;rw [eEcon hv];have h1 : leafAt ls i = some lf := h1;show leafAt _ i = _;rw [Y2, Y1v, X13, hk, <- Y2, Yg, h1];simp [Y7e h2]
  | _ => rw [hv] at h1; simp [AV.leaf?] at h1
 have hstay : ∀ p i, lookM L p i = none -> SamePl s s' p i := fun p i hk =>
  ⟨fun lf u ⟨o1, o2, o3⟩ => ⟨hleafN hk o1 o2, o2, o3⟩, ebN hk, fun b hb => hne p i b hk hb⟩
 have hown : ∀ p i n u, lookM L p i = some n -> (cs p)[i]? = some u -> OwnPlace s' p i n u := fun p i n u hk hu => by
  obtain ⟨x, lv, h1, h2, h3⟩ := hL p i n hk;obtain ⟨k, ls0, hv, hp⟩ := hcon p i n hk;refine ⟨?_, by rw [h2]; exact Y6q h3, hu⟩;rw [eEcon (by rw [Y8 hp, hv])];rw [hv] at h1;have h1 : leafAt ls0 i = some _ := h1;show leafAt _ i = _;rw [Y2, Y1v, X13, hk, <- Y2, Yg, h1];rfl
 have hptr : ∀ p, SamePtr s s' p := fun p => ⟨rfl, fun e ls he => ⟨e, _, eEcon he⟩⟩;have hgL : Keeps c s s' -> ChgLeaf c s s' g (fun _ _ => True) := by
  intro hk u' t' x' p i pa _ hbor;cases hpi : lookM L p i with
  | none =>
   have hf : g.f p i pa ⟨t', x', .bor p i pa⟩ = ⟨t', x', .bor p i pa⟩ := by simp [g, syncsG, hpi]
   rw [hf];exact ⟨rfl, hbor.keep hk (hstay p i hpi)⟩
  | some n =>
   cases pa with
   | nil =>
    have hf : g.f p i [] ⟨t', x', .bor p i []⟩ = ⟨n.t, n.x, .bor p i []⟩ := by simp [g, syncsG, hpi]
    rw [hf];refine ⟨rfl, ?_⟩;obtain ⟨_, ⟨lf', u2, ⟨o1, o2, o3⟩, h5⟩, _⟩ := hbor;obtain ⟨mm, _, rfl⟩ := h5 rfl;refine ⟨?_, ⟨n, u2, hown p i n u2 hpi o3, fun _ => ⟨_, rfl, rfl⟩⟩, fun _ _ hp => by simp at hp⟩;refine Rep.move (fun b hb _ => ⟨?_, rfl⟩) (by simp) (Rep.ro (hrep p i n u2 hpi o3));rcases hb with hb | hb
    ·exact absurd hb id
    ·exact .inr (by rw [ebS hpi]; exact hb)
   | cons z pa =>
    have hf : g.f p i (z :: pa) ⟨t', x', .bor p i (z :: pa)⟩ = Leaf.lost ⟨t', x', .bor p i (z :: pa)⟩ := by simp [g, syncsG, hpi]
    rw [hf];exact ⟨rfl, Rep.one hbor.1 u' (by simp)⟩
 have hgW : Keeps c s s' -> ChgWr c s s' g (fun _ _ => True) := by
  intro hk a p i pa ii oo _ hw;show if (lookM L p i).isSome = true then _ else _
  cases hpi : lookM L p i with
  | some n => simp only [Option.isSome_some, X1o]; exact .inl rfl
  | none =>
   simp only [Option.isSome_none, Xl, X18];have := Y16 (L := fun p i => lookM L p i = none) hk (fun p i hL => hstay p i hL) a p i pa ii oo hpi hw;simpa [noG] using this
 have hmain : Rel c s' := by
  refine Rel.step (s' := s') g hrel D (fun _ _ => True) (fun _ => True) hsame hbel
   (fun b hb hD => hheap b hb (fun q j n hq => hD q (j + 1) ⟨j, n, hq⟩)) (fun p l b hD hb => ?_) (fun p1 l1 p2 l2 b hD hD' hb1 hb2 => ?_) (fun p l hD => ?_) (fun p _ => ⟨fun _ _ => trivial, fun _ _ => trivial⟩) (fun hkp => ⟨hgL hkp, hgW hkp, fun p hL _ => hptr p⟩) (fun hkp p hD => ?_)
  ·rcases part p l b hb with ⟨h1, _⟩ | ⟨j, n, rfl, h1, h2⟩
   ·exact ⟨X1a (hrel.own _ _ _ h1).2 hbel.size, .inr ⟨p, l, hD, h1⟩⟩
   ·obtain ⟨k1, k2⟩ := hbd1 p j n h1 b h2;refine ⟨k1, ?_⟩;rcases k2 with k2 | ⟨q', j', n', k3, k4⟩
    ·exact .inl k2
    ·exact .inr ⟨q', j' + 1, ⟨j', n', k3⟩, k4⟩
  ·have key : ∀ p l j n q, b ∈ bs p l -> (∀ i, l = i + 1 -> lookM L p i = none) -> lookM L q j = some n -> b ∈ bd q j -> False := by
    intro p l j n q h1 h2 h3 h4;rcases (hbd1 q j n h3 b h4).2 with k2 | ⟨q', j', n', k3, k4⟩
    ·have : b < w.heap.size := (hrel.own _ _ _ h1).2;omega
    ·obtain ⟨rfl, h5⟩ := hrel.disj _ _ _ _ _ h1 k4;rw [h2 j' h5] at k3; simp at k3
   rcases part p1 l1 b hb1 with ⟨h1, h1'⟩ | ⟨j1, n1, rfl, h1, h1'⟩ <;> rcases part p2 l2 b hb2 with ⟨h2, h2'⟩ | ⟨j2, n2, rfl, h2, h2'⟩
   ·exact hrel.disj _ _ _ _ _ h1 h2
   ·exact (key _ _ _ _ _ h1 h1' h2 h2').elim
   ·exact (key _ _ _ _ _ h2 h2' h1 h1').elim
   ·obtain ⟨rfl, rfl⟩ := hbd3 _ _ _ _ _ _ _ h1 h2 h1' h2';exact ⟨rfl, rfl⟩
  ·cases l with
   | zero => exact hrel.nodup _ _
   | succ j =>
    cases hk : lookM L p j with
    | none => rw [ebN hk]; exact hrel.nodup _ _
    | some n => rw [ebS hk]; exact hbd2 p j n hk
  ·obtain ⟨j0, n0, hk0⟩ := hD;obtain ⟨k, ls0, hv, hp⟩ := hcon p j0 n0 hk0;have hv' : ovl env noP p = .con k ls0 := by rw [Y8 hp, hv]
   have hav := hrel.av p;rw [show (SS env noP tmps vs w cs bs).env p = .con k ls0 from hv'] at hav;obtain ⟨g1, g2, g3, g4⟩ := hav;rw [eEcon hv'];refine ⟨?_, by rw [Y2y, Yo]; exact g2, fun l hl' => ?_, fun l lf u' hl' hu' => ?_⟩
   ·rw [eb0];cases k with
    | val => exact g1
    | agg => exact g1
    | tup sh => exact g1
    | tupB i n sh =>
     obtain ⟨B, vs0, c0, c1, k1, k2, k3, k4, k5, k6⟩ := g1;have k5 : bs p 0 = [B] := k5;exact ⟨B, vs0, c0, c1, k1, k2, k3, (hne0 p B (by rw [k5]; simp)).trans k4, k5, k6⟩
    | box e =>
     obtain ⟨B, k1, k2, k3, k9⟩ := g1;have k3 : bs p 0 = [B] := k3;exact ⟨B, k1, (hne0 p B (by rw [k3]; simp)).trans k2, k3, k9⟩
   ·rw [Y2y, Yo] at hl';cases hk : lookM L p l with
    | none => rw [ebN hk]; exact g3 l hl'
    | some n =>
     exfalso;obtain ⟨x, lv, h1, _, _⟩ := hL p l n hk;rw [hv] at h1;have h1 : leafAt ls0 l = some _ := h1;rw [Y2] at h1;have := (X5.1 h1).1;omega
   ·have hu' : (cs p)[l]? = some u' := hu';rw [Y2, Y1v, X13, <- Y2, Yg] at hl';obtain ⟨lfg, hlg, rfl⟩ := Xv.1 hl';obtain ⟨lf0, hlf0, rfl⟩ := Xv.1 hlg;cases hk : lookM L p l with
    | none =>
     exact (g4 l lf0 u' hlf0 hu').chg hkp (hgL hkp) (fun z hz => trivial) (ebN hk) (fun b hb => hne p l b hk hb)
    | some n =>
     obtain ⟨x, lv, h1, h2, h3⟩ := hL p l n hk;rw [hv] at h1;have h1 : leafAt ls0 l = some _ := h1;rw [hlf0] at h1;simp only [X0] at h1;subst h1;have hpin := (g4 l _ u' hlf0 hu').pin;have hr := hrep p l n u' hk hu';obtain ⟨t, y, m⟩ := n;simp only at h2 hr;subst h2;refine LeafRel.of_rep hpin ?_;rw [ebS hk];exact (Rep.deep h3).2 (Rep.dpS hr)
 have eE : s'.env = ovl (syncs L env) noP := by
  funext p;by_cases hp : p < env.length
  ·rw [Y8 (by rw [Y21]; exact hp), Ycz];show ((ovl env noP p).chg g).renew L p = _;rw [Y8 hp]
  ·rw [Yn (by rw [Y21]; omega)];show ((ovl env noP p).chg g).renew L p = _;rw [Yn (by omega)];rfl
 refine ⟨by rw [Y21]; exact hlen, cs, s'.bs, Rel.congr hmain eE rfl, fun p => ?_⟩;rw [<- eE, Y21];have h1 := Ybz (L := L) (fun q j n hk => let ⟨_, lv, _, h, _⟩ := hL q j n hk; ⟨lv, h⟩) p ((ovl env noP p).chg g);have h2 := Yl (Yas L) (ovl env noP p);exact ⟨fun z hz => (hno p).1 z (h2.1 z (h1.1 z hz)), fun z hz => (hno p).2 z (h2.2 z (h1.2 z hz))⟩
theorem Y4u : ∀ {t : Ty}, t.flatB = true -> ∀ t' ∈ flat t, t'.flatB = true
 | .int k, _, t', h => by simp [flat] at h; subst h; rfl
 | .bool, _, t', h => by simp [flat] at h; subst h; rfl
 | .str, _, t', h => by simp [flat] at h; subst h; rfl
 | .slice _ _, hf, _, _ => by simp [Ty.flatB] at hf
 | .unit, _, t', h => by simp [flat] at h
 | .pair a b, hf, t', h => by
  simp [Ty.flatB] at hf;simp [flat] at h;rcases h with h | h
  ·exact Y4u hf.1 t' h
  ·exact Y4u hf.2 t' h
theorem Y2z : ∀ {rs : List (Ty × Lvl)} {xs : List (Σ t : Ty, t.D)} {sh : List (Bool × Nat)} {ls : List Leaf}, allFlat rs = true -> resLeaves rs xs = some (sh, ls) -> ∀ lf ∈ ls, lf.t.flatB = true
 | [], [], sh, ls, _, h, lf, hl => by
  simp [resLeaves] at h;obtain ⟨rfl, rfl⟩ := h;simp at hl
 | [], _ :: _, sh, ls, _, h, lf, hl => by simp [resLeaves] at h
 | _ :: _, [], sh, ls, _, h, lf, hl => by simp [resLeaves] at h
 | (t, fr) :: rs, x :: xs, sh, ls, ha, h, lf, hl => by
  simp [allFlat] at ha;simp only [resLeaves] at h;split at h
  ·cases hr : resLeaves rs xs with
   | none => rw [hr] at h; simp at h
   | some q =>
    obtain ⟨sh', ls'⟩ := q;rw [hr] at h;simp at h;obtain ⟨rfl, rfl⟩ := h;rcases X4.1 hl with hl | hl
    ·obtain ⟨lf0, hl0, rfl⟩ := X19.1 hl;have : lf0.t ∈ flat t := by rw [<- Yz t _ (newMode fr) 0]; exact X19.2 ⟨lf0, hl0, rfl⟩
     exact Y4u ha.1 _ this
    ·exact Y2z ha.2 hr lf hl
  ·simp at h
theorem Yc0 (hf : allFlat rs = true) (ha : resAV rs xs = some (.con k ls)) : ∀ lf ∈ ls, lf.t.flatB = true := by
 unfold resAV at ha;cases hr : resLeaves rs xs with
 | none => grind
 | some q =>
  obtain ⟨sh, ls'⟩ := q;rw [hr] at ha;simp [mkCon] at ha;split at ha
  ·simp at ha;rw [<- ha.2]; exact Y2z hf hr
  ·simp at ha;rw [<- ha.2]; exact Y2z hf hr
theorem Y5f {lv m : Lvl} : ∀ (t : Ty) (x : t.D) (n : Nat), ∀ lf ∈ leaves t x (fun _ => .at_ lv) n, lf.t.flatB = false -> lf.m = .at_ m -> m = lv
 | .int k, x, n, lf, h, hf, hm => by simp [leaves] at h; rw [h] at hf; simp [Ty.flatB] at hf
 | .bool, x, n, lf, h, hf, hm => by simp [leaves] at h; rw [h] at hf; simp [Ty.flatB] at hf
 | .str, x, n, lf, h, hf, hm => by simp [leaves] at h; rw [h] at hf; simp [Ty.flatB] at hf
 | .slice e t, x, n, lf, h, hf, hm => by simp [leaves] at h; rw [h] at hm; simpa using hm.symm
 | .unit, x, n, lf, h, hf, hm => by simp [leaves] at h
 | .pair a b, x, n, lf, h, hf, hm => by
  simp [leaves] at h;rcases h with h | h
  ·exact Y5f a _ _ _ h hf hm
  ·exact Y5f b _ _ _ h hf hm
structure MutSet (env : Env) (ls ns : List Leaf) (L : Places) : Prop where
 len : ls.length = ns.length
 here : ∀ (i : Nat) (l n : Leaf), ls[i]? = some l -> ns[i]? = some n -> (l.t.flatB = true /\ l.m.live = true) \/ (l.t.flatB = false /\ ∃ (r j : Nat) (t0 : Ty) (x0 : t0.D) (lv : Lvl), l.m = .bor r j [] /\ (get env r).leaf? j = some ⟨t0, x0, .at_ lv⟩ /\ lv.deep = true /\ lookM L r j = some ⟨n.t, n.x, .at_ lv⟩)
 back : ∀ (r j : Nat) (m : Leaf), lookM L r j = some m -> ∃ (i : Nat) (l n : Leaf) (lv : Lvl) (t0 : Ty) (x0 : t0.D), ls[i]? = some l /\ ns[i]? = some n /\ l.t.flatB = false /\ l.m = .bor r j [] /\ m = ⟨n.t, n.x, .at_ lv⟩ /\ lv.deep = true /\ (get env r).leaf? j = some ⟨t0, x0, .at_ lv⟩
 uniq : ∀ (i i' : Nat) (l l' : Leaf) (r j : Nat), ls[i]? = some l -> ls[i']? = some l' -> l.t.flatB = false -> l'.t.flatB = false -> l.m = .bor r j [] -> l'.m = .bor r j [] -> i = i'
theorem Y6b : ∀ {ls ns : List Leaf} {L : Places}, mutSet env ls ns = some L -> MutSet env ls ns L
 | [], [], L, h => by
  simp [mutSet] at h;subst h;exact ⟨rfl, by simp, fun r j m h => by simp [lookM] at h, by simp⟩
 | [], _ :: _, L, h => by simp [mutSet] at h
 | _ :: _, [], L, h => by simp [mutSet] at h
 | l :: ls, n :: ns, L, h => by
  simp [mutSet] at h;split at h
  ·simp at h
  ·rename_i L0 h0;obtain ⟨k1, k2, k3, k4⟩ := Y6b h0;split at h
   ·rename_i hf;split at h
    ·rename_i hlv;simp at h;subst h;refine ⟨by simp [k1], fun i l' n' hl hn => ?_, fun r j m hm => ?_, fun i i' l1 l2 r j h1 h2 f1 f2 m1 m2 => ?_⟩
     ·cases i with
      | zero => grind
      | succ i => exact k2 i l' n' hl hn
     ·obtain ⟨i, h⟩ := k3 r j m hm;exact ⟨i + 1, h⟩
     ·grind
    ·simp at h
   ·rename_i hf;have hf : l.t.flatB = false := by simpa using hf
    split at h
    ·rename_i r0 j0 hm0;split at h
     ·rename_i t0 x0 lv hpl;split at h
      ·rename_i hc;obtain ⟨hd, hnone⟩ := hc;have hnone : lookM L0 r0 j0 = none := by grind
       simp at h;subst h;have look : ∀ r j, ¬ (r = r0 /\ j = j0) -> lookM ((r0, j0, (⟨n.t, n.x, .at_ lv⟩ : Leaf)) :: L0) r j = lookM L0 r j := fun r j h => by simp only [lookM]; rw [X6 h]
       have look0 : lookM ((r0, j0, (⟨n.t, n.x, .at_ lv⟩ : Leaf)) :: L0) r0 j0 = some ⟨n.t, n.x, .at_ lv⟩ := by simp [lookM]
       have tail : ∀ (i : Nat) (l' : Leaf), ls[i]? = some l' -> l'.t.flatB = false -> l'.m ≠ .bor r0 j0 [] := fun i l' h1 f1 m1 => by grind
       refine ⟨by simp [k1], fun i l' n' hl hn => ?_, fun r j m hm => ?_, fun i i' l1 l2 r j h1 h2 f1 f2 m1 m2 => ?_⟩
       ·grind
       ·by_cases hrj : r = r0 /\ j = j0
        ·obtain ⟨rfl, rfl⟩ := hrj;rw [look0] at hm;simp at hm;subst hm;exact ⟨0, l, n, lv, t0, x0, rfl, rfl, hf, hm0, rfl, hd, hpl⟩
        ·rw [look r j hrj] at hm;obtain ⟨i, h⟩ := k3 r j m hm;exact ⟨i + 1, h⟩
       ·grind
      ·simp at h
     ·simp at h
    ·simp at h
def MutOk (c : Cx) (env : Env) (tmps : Array Value) (w : World) (vs : Nat -> Value) (bs : Nat -> Nat -> List Nat) (t : Ty) (cells : List Value) (ls : List Leaf) (x y : t.D) (L : Places) : Prop :=
 ∃ b0 : List Nat, Rep (fun _ => False) w t .dp cells x b0 /\ b0.Nodup /\ (∀ b ∈ b0, ∃ q ∈ ls.flatMap Leaf.refs, b ∈ bs q.1 (q.2 + 1)) /\
  ∀ (w' : World) (b1 : List Nat), Below c.base w w' -> (∀ b, b < w.heap.size -> b ∉ b0 -> w'.heap[b]? = w.heap[b]?) -> Rep (fun _ => False) w' t .dp cells y b1 -> b1.Nodup -> (∀ b ∈ b1, b ∈ b0 \/ w.heap.size <= b) -> RP c (syncs L env) tmps w' noP vs
section
variable {c : Cx} {env : Env} {tmps : Array Value} {w : World} {vs : Nat -> Value} {cs : Nat -> List Value} {bs : Nat -> Nat -> List Nat}
theorem Y85 {bds : List (List Nat)} {l b : Nat} (h : b ∈ bds.getD l []) : l < bds.length := by grind
theorem Yei (hlen : env.length = tmps.size) (hrel : Rel c (SS env noP tmps vs w cs bs)) (hno : ∀ r, (∀ q ∈ (ovl env noP r).refs, q.1 < env.length) /\ (∀ q ∈ (ovl env noP r).ptrs, q < env.length)) {x y : t.D} {L : Places}
  (hv : ValC c (SS env noP tmps vs w cs bs) (.con k ls) v cells) (hty : typedAs ls t = true) (hx : asm t ls = some (x, [])) (hM : mutSet env ls (leaves t y (fun _ => .at_ .dp) 0) = some L) : MutOk c env tmps w vs bs t cells ls x y L := by
 obtain ⟨k1, k2, k3, k4⟩ := Y6b hM;obtain ⟨g1, g2, g3⟩ := hv;have hty' : ls.map Leaf.t = flat t := by simpa [typedAs] using hty
 -- a row's place
 have place : ∀ (i : Nat) (l : Leaf) (u : Value) (r j : Nat) (t0 : Ty) (x0 : t0.D) (lv : Lvl), ls[i]? = some l -> cells[i]? = some u -> l.m = .bor r j [] -> (get env r).leaf? j = some ⟨t0, x0, .at_ lv⟩ -> lv.deep = true -> (cs r)[j]? = some u /\ t0 = l.t /\ Rep (fun _ => False) w l.t .dp [u] l.x (bs r (j + 1)) := by
  intro i l u r j t0 x0 lv hl hu hm hp hd;have h6 := g3 i l u (by rw [Y2]; exact hl) hu;obtain ⟨lt, lx, lm⟩ := l;simp only at hm;subst hm;obtain ⟨_, ⟨lf', u', ⟨o1, o2, o3⟩, h5⟩, _⟩ := h6;obtain ⟨mm, rfl, rfl⟩ := h5 rfl;have hrl : r < env.length := Y1b hp;have o1 : (ovl env noP r).leaf? j = some _ := o1;rw [Y8 hrl, hp] at o1;simp at o1;obtain ⟨rfl, hx0, rfl⟩ := o1;have hx0 : x0 = lx := eq_of_heq hx0;subst hx0;refine ⟨o3, rfl, ?_⟩;have hav := hrel.av r;rw [show (SS env noP tmps vs w cs bs).env r = get env r from Y8 hrl] at hav;cases hv : get env r with
  | con kk ls0 =>
   rw [hv] at hav hp;exact Rep.dpS ((Rep.deep hd).1 (hav.2.2.2 j _ _ hp o3).rep)
  | _ => rw [hv] at hp; simp [AV.leaf?] at hp
 let F : Nat -> List Nat := fun i => match ls[i]? with
  | some l => if l.t.flatB then [] else (match l.m with | .bor r j _ => bs r (j + 1) | _ => [])
  | none => []
 have hFi : ∀ {i : Nat} {l : Leaf}, ls[i]? = some l -> F i = if l.t.flatB then [] else (match l.m with | .bor r j _ => bs r (j + 1) | _ => []) := fun {i l} h => by grind
 have hns : (leaves t y (fun _ => .at_ .dp) 0).length = ls.length := k1.symm;have hF : ∀ (i b : Nat), b ∈ F i -> ∃ (l : Leaf) (r j : Nat), ls[i]? = some l /\ l.t.flatB = false /\ l.m = .bor r j [] /\ b ∈ bs r (j + 1) := by grind
 have hFb : ∀ {i : Nat} {l : Leaf} {r j : Nat}, ls[i]? = some l -> l.t.flatB = false -> l.m = .bor r j [] -> F i = bs r (j + 1) := fun {i l r j} h1 h2 h3 => by grind
 obtain ⟨c0, c1, e0, _, e2, e3, _⟩ := Y2u (S := fun _ => False) (w := w) (L := .dp) (F := F) t (k := 0) hx g2 (fun l lf u hl hu => by
  rw [X13];have hlt : l < (leaves t y (fun _ => .at_ .dp) 0).length := by grind
  rcases k2 l lf _ hl (X1 hlt) with ⟨h1, h2⟩ | ⟨h1, r, j, t0, x0, lv, m1, m2, m3, _⟩
  ·have h6 := (g3 l lf u (by rw [Y2]; exact hl) hu).rep (S := fun _ => True) h2 (fun _ _ => trivial) (fun _ _ _ _ => trivial);rw [hFi hl, h1];exact (Rep.flat h1 h6).2
  ·grind)
 have hc1 : c1 = [] := Xp.1 (by rw [<- e2]; rfl);subst hc1;rw [Xf] at e0;subst e0;have hFnd : ∀ i, (F i).Nodup := fun i => by
  cases hl : ls[i]? with
  | none => grind
  | some l =>
   rw [hFi hl];split
   ·exact X10
   ·split
    ·exact hrel.nodup _ _
    ·exact X10
 have hFd : ∀ i i' b, b ∈ F i -> b ∈ F i' -> i = i' := fun i i' b h1 h2 => by
  obtain ⟨l, r, j, a1, a2, a3, a4⟩ := hF i b h1;obtain ⟨l', r', j', b1, b2, b3, b4⟩ := hF i' b h2;obtain ⟨rfl, hj⟩ := hrel.disj _ _ _ _ _ a4 b4;obtain rfl : j = j' := by omega
  exact k4 i i' l l' r j a1 b1 a2 b2 a3 b3
 refine ⟨(List.range' 0 t.sz).flatMap F, e3, Y24 hFnd hFd _ _, fun b hb => ?_, fun w' b1 hbel hsame hrep' hnd1 hnew => ?_⟩
 ·simp at hb;obtain ⟨i, _, hb⟩ := hb;obtain ⟨l, r, j, a1, a2, a3, a4⟩ := hF i b hb;exact ⟨(r, j), Xj.2 ⟨l, Xa a1, by simp [Leaf.refs, a3]⟩, a4⟩
 ·obtain ⟨n1, n2, bds, n3, n4, n5⟩ := Y2h .dp t 0 hrep';rw [n4] at hnd1 hnew;obtain ⟨d1, d2⟩ := Y19 hnd1;have hb0 : ∀ b, b ∈ (List.range' 0 t.sz).flatMap F -> ∃ q' j' n', lookM L q' j' = some n' /\ b ∈ bs q' (j' + 1) := fun b hb => by grind
  have hb0' : ∀ q j n, lookM L q j = some n -> ∀ b ∈ bs q (j + 1), b ∈ (List.range' 0 t.sz).flatMap F := fun q j n hk b hb => by grind
  -- which leaf
  have idx : ∀ q j n, lookM L q j = some n -> ∃ (i : Nat), (∃ (l nn : Leaf), ls[i]? = some l /\ (leaves t y (fun _ => .at_ .dp) 0)[i]? = some nn /\ l.t.flatB = false /\ l.m = .bor q j [] /\ nn.t = n.t /\ HEq nn.x n.x) := fun q j n hk => by grind
  classical
  let bd : Nat -> Nat -> List Nat := fun q j => if h : ∃ (i : Nat) (l : Leaf), ls[i]? = some l /\ l.t.flatB = false /\ l.m = .bor q j [] then bds.getD (Classical.choose h) [] else []
  have hbd : ∀ {q j i : Nat} {l : Leaf}, ls[i]? = some l -> l.t.flatB = false -> l.m = .bor q j [] -> bd q j = bds.getD i [] := fun {q j i l} h1 h2 h3 => by
   have hex : ∃ (i : Nat) (l : Leaf), ls[i]? = some l /\ l.t.flatB = false /\ l.m = .bor q j [] := ⟨i, l, h1, h2, h3⟩;show (if h : _ then _ else _) = _;rw [dif_pos hex];obtain ⟨l', e1, e2, e3⟩ := Classical.choose_spec hex;rw [k4 _ _ _ _ _ _ e1 h1 e2 h2 e3 h3]
  have hLok : ∀ q j n, lookM L q j = some n -> ∃ x lv, (get env q).leaf? j = some ⟨n.t, x, .at_ lv⟩ /\ n.m = .at_ lv /\ lv.deep = true := fun q j n hk => by
   obtain ⟨i, l, nn, lv, t0, x0, a1, a2, a3, a4, a5, a6, a7⟩ := k3 q j n hk;have hcl : i < cells.length := by rw [<- g2]; exact (X5.1 a1).1
   obtain ⟨_, p2, _⟩ := place i l _ q j t0 x0 lv a1 (X1 hcl) a4 a7 a6;have htt : nn.t = l.t := by
    have h1 : ((leaves t y (fun _ => .at_ .dp) 0).map Leaf.t)[i]? = some nn.t := by rw [X1d, a2]; rfl
    have h2 : (ls.map Leaf.t)[i]? = some l.t := by rw [X1d, a1]; rfl
    rw [Yz, <- hty', h2] at h1;exact (Xr h1).symm
   subst a5;have e : nn.t = t0 := by rw [htt, p2]
   exact ⟨e ▸ x0, lv, by rw [a7]; cases e; rfl, rfl, a6⟩
  refine RP.syncsAt hlen hrel hno hLok hbel (fun b hb hD => hsame b hb (fun hb2 => ?_)) bd (fun q j n hk b hb => ?_) (fun q j n hk => ?_) (fun q j n q' j' n' b hk hk' hb hb' => ?_) (fun q j n u hk hu => ?_)
  ·grind
  ·obtain ⟨i, l, nn, a1, a2, a3, a4, _⟩ := idx q j n hk;rw [hbd a1 a3 a4] at hb;have hi := Y85 hb;obtain ⟨m, _, hr⟩ := n5 i nn (cells[i]'(by omega)) a2 (X1 (by omega));refine ⟨Rep.lt hr b hb, ?_⟩;rcases hnew b (Ym hb) with h | h
   ·exact .inr (hb0 b h)
   ·exact .inl h
  ·grind
  ·obtain ⟨i, l, nn, a1, a2, a3, a4, _⟩ := idx q j n hk;obtain ⟨i', l', nn', b1, b2, b3, b4, _⟩ := idx q' j' n' hk';rw [hbd a1 a3 a4] at hb;rw [hbd b1 b3 b4] at hb';have := d2 i i' b hb hb';subst this;rw [a1] at b1;simp at b1;subst b1;rw [a4] at b4;simp at b4;exact b4
  ·obtain ⟨i, l, nn, lv, t0, x0, a1, a2, a3, a4, a5, a6, a7⟩ := k3 q j n hk;have hcl : i < cells.length := by rw [<- g2]; exact (X5.1 a1).1
   obtain ⟨p1, p2, _⟩ := place i l _ q j t0 x0 lv a1 (X1 hcl) a4 a7 a6;rw [hu] at p1;obtain rfl := Xr p1;obtain ⟨m, hm, hr⟩ := n5 i nn _ a2 (X1 hcl);rw [hbd a1 a3 a4];subst a5;have hmode := Y1s t y 0 nn (Xa a2);have hnf : nn.t.flatB = false := by
    have h1 : ((leaves t y (fun _ => .at_ .dp) 0).map Leaf.t)[i]? = some nn.t := by rw [X1d, a2]; rfl
    have h2 : (ls.map Leaf.t)[i]? = some l.t := by rw [X1d, a1]; rfl
    rw [Yz, <- hty', h2] at h1;rw [<- Xr h1]; exact a3
   have hmd : m = .dp := Y5f t y 0 nn (Xa a2) hnf hm;subst hmd;exact hr
end
section
variable {c : Cx} {env : Env} {tmps : Array Value} {w : World} {vs : Nat -> Value} {cs : Nat -> List Value} {bs : Nat -> Nat -> List Nat}
end
theorem Yd0 {ys : List t.D} {bl : List Nat} {A : Addr} {n cp : Nat} (h : Rep (fun _ => False) w (.slice e t) .dp [.slice (some A) n cp] ys bl) {i oo : Nat} (hin : i < n) {y : t.D} (hus : ls.length = us.length) (hne : ls ≠ [])
  (hru : ∀ (l : Nat) (lf : Leaf) (u : Value), ls[l]? = some lf -> us[l]? = some u -> Rep (fun _ => False) w lf.t .dp [u] lf.x []) (hu : updLeavesD t (ys.getD i t.dflt) oo ls = some y) (hnd : bl.Nodup) :
  ∃ G cur, A = ⟨G, 0, none⟩ /\ G ∈ bl /\ w.heap[G]? = some (.cells cur e (0, 0)) /\ i * t.sz + oo + us.length <= cur.size /\ ∃ bl', (∀ b ∈ bl', b ∈ bl) /\ bl'.Nodup /\
   ∀ w' : World, w'.heap[G]? = some (.cells (cur.toList.take (i * t.sz + oo) ++ us ++ cur.toList.drop (i * t.sz + oo + us.length)).toArray e (0, 0)) -> (∀ b ∈ bl, b ≠ G -> w'.heap[b]? = w.heap[b]?) ->
    Rep (fun _ => False) w' (.slice e t) .dp [.slice (some A) n cp] (ys.set i y) bl' := by
 obtain ⟨v0, cells, b0, b1, e1, e2, hel, hb0, hown1, hown⟩ := h;obtain rfl : v0 = .slice (some A) n cp := by simpa using e1.symm
 rcases hown with ⟨h', _⟩ | ⟨G, cap', cur, h', _, hgB, hnc, hcm, hcs, htk⟩
 ·simp at h'
 simp only [Value.slice.injEq, X0] at h';obtain ⟨rfl, rfl, rfl⟩ := h';have hb0 : b0 = [G] := by rw [hb0]; rfl
 subst hb0;have hget : ys.getD i t.dflt = ys[i] := by simp [hin]
 rw [hget] at hu;obtain ⟨pre, ch, post, x0, x1, x2, f1, f2, f3, f4, f5, f6⟩ := hel.at_ i hin;have f5 : Rep _ w t .dp ch _ x1 := f5;obtain ⟨k0, b', k4, k5, k6⟩ := Y27 t ls us (fun _ => []) hus hru f5 hu;have k0 := k0 hne;have hel' := f6 (setCs ch oo us) y _ (by rw [Y40]; exact f3) k4;have hcl : cells.length = ys.length * t.sz := hel.len;have hlen2 : cells.length <= cur.size := by
  have : cells.length <= cur.toList.length := by rw [<- htk, Xi]; exact Nat.min_le_right _ _
  simpa using this
 have hoff : i * t.sz + oo + us.length <= cells.length := by
  rw [f1]; simp only [Xk]; omega
 have hcells : pre ++ setCs ch oo us ++ post = cells.take (i * t.sz + oo) ++ us ++ cells.drop (i * t.sz + oo + us.length) := by
  rw [Y6r _ _ _ (by omega), f1, Y82 _ _ _ _ _ (by omega), f2]
 rw [hcells] at hel';subst f4;subst e2;have hndn : ([G] ++ (x0 ++ b' ++ x2)).Nodup := by
  have := k6 ([G] ++ x0) x2 (by simpa only [X7] using hnd) (fun l _ => X10) (fun l l' z _ _ h1 _ => by simp at h1) (fun l z _ hz => by simp at hz);simpa only [X7] using this
 have hsub : ∀ b ∈ x0 ++ b' ++ x2, b ∈ x0 ++ x1 ++ x2 := fun b hb => by
  simp only [X4] at hb ⊢;rcases hb with (hb | hb) | hb
  ·simp [hb]
  ·rcases k5 b hb with hb | ⟨l, _, hb⟩
   ·simp [hb]
   ·simp at hb
  ·simp [hb]
 refine ⟨G, cur, rfl, by simp, hgB, by omega, [G] ++ (x0 ++ b' ++ x2), fun b hb => ?_, hndn, fun w' hsame hother => ?_⟩
 ·rcases X4.1 hb with hb | hb
  ·exact Xb _ hb
  ·exact Xc _ (hsub b hb)
 ·refine ⟨.slice (some ⟨G, 0, none⟩) ys.length cp, cells.take (i * t.sz + oo) ++ us ++ cells.drop (i * t.sz + oo + us.length), [G], _, rfl, rfl, ?_, rfl, ?_⟩
  ·refine El.imp (fun c' x' b2 hb' h' => ?_) hel';refine Rep.move (S := fun _ => False) (fun _ hf => absurd hf id) (fun b hb => hother b (Xc _ (hsub b (hb' b hb))) (fun e => ?_)) h';subst e;exact (Xq.1 hndn).2.2 b (by simp) b (hb' b hb) rfl
  ·rw [X15];have hcurl : i * t.sz + oo + us.length <= cur.toList.length := by
    have : cur.toList.length = cur.size := X12;omega
   refine ⟨?_, .inr ⟨G, cp, _, rfl, X2n _, hsame, hnc, hcm, ?_, ?_⟩⟩
   ·simp only [Xk, Xi, X11]; omega
   ·rw [<- hcs];have hcz : cur.toList.length = cur.size := X12;simp only [X36, Xk, Xi, X11];omega
   ·rw [<- htk];exact Y6s _ _ _ _ (by rw [hcl] at hoff; exact hoff) (by rw [<- hcl, <- htk, Xi]; exact Nat.min_le_right _ _)
theorem Y7f (hrel : Rel c (SS env ps tmps vs w cs bs)) {r j : Nat} {te : Ty} {xs : List te.D} (hlv : lv.deep = true) (hq : (get env r).leaf? j = some ⟨.slice e te, xs, .at_ lv⟩) {B n0 cp0 : Nat} {uu : Value} (huu : (cs r)[j]? = some uu) (hB : uu = .slice (some ⟨B, 0, none⟩) n0 cp0) {i0 o0 : Nat} (hi0 : i0 < xs.length) {A : Addr} {n' cp' : Nat} (hcell : w.cell? ⟨B, i0 * te.sz + o0, none⟩ = some (.slice (some A) n' cp')) {i oo : Nat} (hi : i < n') {e' : TypeId} {t' : Ty} {ys : List t'.D} (hleaf : leafD te (xs.getD i0 te.dflt) o0 = some ⟨.slice e' t', ys⟩) {y : t'.D} {x' : te.D} (hus : ls.length = us.length) (hne : ls ≠ []) (hru : ∀ (l : Nat) (lf : Leaf) (u : Value), ls[l]? = some lf -> us[l]? = some u -> Rep (fun _ => False) w lf.t .dp [u] lf.x [])
  (hu : updLeavesD t' (ys.getD i t'.dflt) oo ls = some y) (hx : updLeafD te (xs.getD i0 te.dflt) o0 ⟨.slice e' t', ys.set i y, .at_ .dp⟩ = some x') :
  ∃ G cur, A = ⟨G, 0, none⟩ /\ G ∈ bs r (j + 1) /\ w.heap[G]? = some (.cells cur e' (0, 0)) /\ i * t'.sz + oo + us.length <= cur.size /\ ∃ bd, (∀ b ∈ bd, b ∈ bs r (j + 1)) /\ bd.Nodup /\
   ∀ w' : World, w'.heap[G]? = some (.cells (cur.toList.take (i * t'.sz + oo) ++ us ++ cur.toList.drop (i * t'.sz + oo + us.length)).toArray e' (0, 0)) -> (∀ b ∈ bs r (j + 1), b ≠ G -> w'.heap[b]? = w.heap[b]?) ->
    Rep (fun _ => False) w' (.slice e te) .dp [uu] (xs.set i0 x') bd := by
 subst hB;obtain ⟨B2, cp2, cells, b1, n1, n2, n3, n4⟩ := Y4t hrel hlv hq (by omega);rw [huu] at n1;simp only [X0, Value.slice.injEq, X2m, and_true] at n1;obtain ⟨rfl, rfl, rfl⟩ := n1;have hgetD : xs.getD i0 te.dflt = xs[i0] := by simp [hi0]
 rw [hgetD] at hx hleaf;obtain ⟨pre, ch, post, z0, z1, z2, f1, f2, f3, f4, f5, f6⟩ := El.at2 i0 hi0 n3;have f5 : Rep (fun _ => False) w te .dp ch xs[i0] z1 := f5;obtain ⟨u1, bA, bl, bB, h1, h2, h3, h4⟩ := Rep.leafAt te f5 hleaf;have hoo : o0 < te.sz := by
  have := (X5.1 h1).1;omega
 have hcell2 : w.cell? ⟨B, i0 * te.sz + o0, none⟩ = some u1 := by
  refine Y6t n4 ?_;rw [f1, X7, Xe (by omega), Xo (by omega), f2, show i0 * te.sz + o0 - i0 * te.sz = o0 by omega];exact h1
 rw [hcell] at hcell2;obtain rfl := Xr hcell2;have hnd : (B :: b1).Nodup := by rw [<- n2]; exact hrel.nodup r (j + 1)
 rw [f4, h2] at hnd;have hblnd : bl.Nodup := hnd.sublist (by
  refine List.Sublist.trans ?_ (List.sublist_cons_self _ _);refine List.Sublist.trans ?_ (List.sublist_append_left _ _);refine List.Sublist.trans ?_ (List.sublist_append_right _ _);refine List.Sublist.trans ?_ (List.sublist_append_left _ _);exact List.sublist_append_right _ _)
 obtain ⟨G, cur, k1, k2, k3, k4, bl', k5, k6, k7⟩ := Yd0 h3 hi hus hne hru hu hblnd;have hblB : ∀ b ∈ bl, b ∈ bs r (j + 1) := fun b hb => by
  rw [n2, f4, h2];simp only [Xs, X4];simp [hb]
 have hdis : ∀ b, b ∈ z0 ++ z2 \/ b ∈ bA ++ bB \/ b = B -> b ∉ bl := by
  intro b hb hbl;have hc : List.count b (B :: (z0 ++ (bA ++ bl ++ bB) ++ z2)) <= 1 := List.nodup_iff_count.1 hnd b;have h0 : 0 < List.count b bl := List.count_pos_iff.2 hbl;simp only [List.count_cons, List.count_append] at hc;rcases hb with hb | hb | rfl
  ·rcases X4.1 hb with h | h <;> · have := List.count_pos_iff.2 h; omega
  ·rcases X4.1 hb with h | h <;> · have := List.count_pos_iff.2 h; omega
  ·simp at hc; omega
 refine ⟨G, cur, k1, hblB G k2, k3, k4, B :: (z0 ++ (bA ++ bl' ++ bB) ++ z2), fun b hb => ?_, ?_, fun w' hsame hother => ?_⟩
 ·rw [n2, f4, h2];simp only [Xs, X4] at hb ⊢;rcases hb with h | (h | (h | h) | h) | h
  ·simp [h]
  ·simp [h]
  ·simp [h]
  ·simp [k5 b h]
  ·simp [h]
  ·simp [h]
 ·have h0 : (B :: (z0 ++ (bA ++ bB) ++ z2)).Nodup := hnd.sublist (by
   refine List.Sublist.cons_cons _ (X1v (X1v (X1y _) ?_) (X1y _));rw [X7];exact X1v (X1y _) (List.sublist_append_right _ _))
  have hperm : List.Perm (B :: (z0 ++ (bA ++ bl' ++ bB) ++ z2)) (bl' ++ (B :: (z0 ++ (bA ++ bB) ++ z2))) := by
   rw [List.perm_iff_count];intro a;simp only [List.count_cons, List.count_append];omega
  refine hperm.nodup_iff.2 (Xq.2 ⟨k6, h0, fun a ha b hb e => ?_⟩);subst e;refine hdis a ?_ (k5 a ha);simp only [Xs, X4] at hb ⊢;rcases hb with h | (h | h | h) | h <;> simp [h]
 ·have old : ∀ b, b ∈ z0 ++ z2 \/ b ∈ bA ++ bB \/ b = B -> w'.heap[b]? = w.heap[b]? := fun b hb => hother b (by
   rw [n2, f4, h2];simp only [Xs, X4] at hb ⊢;rcases hb with (h | h) | (h | h) | h <;> simp [h]) (fun e => hdis b hb (e ▸ k2))
  have hrn := k7 w' hsame (fun b hb hb1 => hother b (hblB b hb) hb1);obtain ⟨y2, q1, hup⟩ := h4 (fun _ => False) w' _ ⟨.slice e' t', ys.set i y, .at_ .dp⟩ bl' rfl hrn (fun _ h => h.elim) (fun b hb => old b (.inr (.inl hb)));rw [hx] at q1;obtain rfl := Xr q1;have hch : ch.set o0 (.slice (some A) n' cp') = ch := by
   apply X29;intro k;rw [List.getElem?_set];split
   ·rename_i hk;subst hk;split
    ·exact h1.symm
    ·omega
   ·rfl
  rw [hch] at hup;have hel' := f6 (Rep (fun _ => False) w' te .dp) (fun c' x' b' hb' h' => Rep.move (fun _ h => h.elim) (fun b hb => old b (.inl (hb' b hb))) h') ch x' (bA ++ bl' ++ bB) f3 hup;rw [<- f1] at hel';refine ⟨_, cells, [B], z0 ++ (bA ++ bl' ++ bB) ++ z2, rfl, rfl, hel', rfl, ?_⟩;rw [X15];exact Y1z n4 (fun k hk => by
   have : B = k := by simpa [Value.ownBlock] using hk
   subst this;exact old B (.inr (.inr rfl)))
section
variable {P : Program} {o : Oper} {a : Act} {w : World} {R : Type} {K : Env -> Option R} {r : R} {next : Act -> World -> Prop} {Q : Exit -> Act -> World -> Prop} {c : Cx} {d : Nat} {T : Tab} {env : Env}
theorem Y90 (hT : TabOk P T) {t : TypeId} {x v : Operand} {env1 : Env} {q j o0 z oo : Nat} {i0 i1 i : Int} {le : List Leaf} (hop : o.op = .store t x v) (hdst : o.dst = none) (hr : RE c env a.tmps w) (ht : T.ty t = some τ) (hta : takeAs τ env v = some (env1, ls))
  (hx : rd none env1 x = .eptr le (some (q, j, [(i0, o0), (i1, z)], i, oo))) (hK : storeNest q j i0 o0 i1 z i oo ls env1 K = some r) (hn : Next c a K r env.length next) : o.wp P a w next Q := by
 unfold storeNest at hK;split at hK
 case h_2 => simp at hK
 rename_i e te xs lv hl;split at hK
 case isFalse => simp at hK
 rename_i hc;obtain ⟨hlv, hlm⟩ := hc;split at hK
 case h_2 => simp at hK
 rename_i e' t' ys hleaf;split at hK
 case isFalse => simp at hK
 rename_i hz;obtain ⟨rfl, rfl⟩ := hz;split at hK
 case h_2 => simp at hK
 rename_i y hu;split at hK
 case h_2 => simp at hK
 rename_i x' hux;simp only [X8, X1j, List.isEmpty_eq_false_iff] at hlm;obtain ⟨hne, hlm⟩ := hlm;obtain ⟨hti, hty⟩ := Y1u hta;have hll := Y13 hty;obtain ⟨vs, h⟩ := hr;obtain ⟨hlen1, h1⟩ := Y12 h (fun r => .inl rfl) hti (Xh _) rfl;have hset := Yw hti;have hs1 : ∀ r, Settled (upd noP env.length (.con τ.kind ls) r) := Settled.upd (fun r => .inl rfl) _ (.inr ⟨_, _, rfl, hset⟩)
 let ps := upd noP env.length (.con τ.kind ls)
 let vs1 := upd vs env.length (evT a.tmps v)
 have hql : q < env1.length := Y1b hl;have hqm : q ≠ env.length := by omega
 have near : ∀ cs bs, Rel c (SS env1 ps a.tmps vs1 w cs bs) -> ∃ B n cp A n' cp', (cs q)[j]? = some (.slice (some ⟨B, 0, none⟩) n cp) /\ i0.toNat < xs.length /\ w.cell? ⟨B, i0.toNat * te.sz + o0, none⟩ = some (.slice (some A) n' cp') /\ i.toNat < n' /\ evT a.tmps x = .pointer (some (A.add (i.toNat * t'.sz + oo))) := by
  intro cs bs hrel;obtain ⟨cells, hv⟩ := Yh h1.len hrel none x;rw [hx] at hv;obtain ⟨ad, ea, _, _, lf, u, ⟨o1, o2, o3⟩, k⟩ := hv;obtain ⟨e2, t2, xs2, m', B, n, cp, A, n', cp', k1, k2, k3, _, k4, k5, k6⟩ := k.2 _ _ _ rfl;have o1 : (ovl env1 ps q).leaf? j = some lf := o1;rw [Y8 hql, hl] at o1;simp only [X0] at o1;rw [<- o1] at k1;simp only [Leaf.mk.injEq, Ty.slice.injEq] at k1;obtain ⟨⟨rfl, rfl⟩, hxx, _⟩ := k1;obtain rfl := eq_of_heq hxx;subst k2;exact ⟨B, n, cp, A, n', cp', o3, k3.2, k4, k5.2, by rw [ea, k6]⟩
 let us := (evT a.tmps v).cells.toList
 have leafv : ∀ cs bs, Rel c (SS env1 ps a.tmps vs1 w cs bs) -> ls.length = us.length /\ ∀ (l : Nat) (lf : Leaf) (u : Value), ls[l]? = some lf -> us[l]? = some u -> Rep (fun _ => False) w lf.t .dp [u] lf.x [] := by
  intro cs bs hrel;obtain ⟨m1, m2, m3, m4, m5⟩ := Y2b h1.len hrel (n := env.length) (by omega) (Y0 _ _ _) (Y1j τ) hset;have ev : vs1 env.length = evT a.tmps v := Y0 _ _ _;rw [ev] at m1;refine ⟨by rw [m3, m1], fun l lf u hlf hu1 => ?_⟩;obtain ⟨lv, ⟨k1, _⟩, k2⟩ := m5 l lf u hlf (by rw [m1]; exact hu1);have hlm1 := Xd.1 hlm lf (Xa hlf);simp only [X8] at hlm1;exact (Rep.flat (S' := fun _ => False) (w' := w) (m' := .dp) hlm1.2 k2).2
 obtain ⟨cs0, bs0, hrel0, _⟩ := h1.rel;obtain ⟨B, n, cp, A, n', cp', c1, c2, c3, c4, c5⟩ := near cs0 bs0 hrel0;obtain ⟨hus, leafv0⟩ := leafv cs0 bs0 hrel0;have hone : ∀ u ∈ us, u.oneCell' = true := fun u hu => by
  obtain ⟨l, hlu⟩ := Xz hu;have hlt : l < ls.length := by rw [hus]; exact (X5.1 hlu).1
  exact Rep.one (leafv0 l ls[l] u (X1 hlt) hlu) u (by simp)
 obtain ⟨G, cur, g1, g2, hgB, hfit, _⟩ := Y7f hrel0 hlv hl c1 rfl c2 c3 c4 hleaf hus hne leafv0 hu hux;subst g1
 let off := i.toNat * t'.sz + oo
 let cur' : Array Value := (cur.toList.take off ++ us ++ cur.toList.drop (off + us.length)).toArray
 let w' := w.setRow G cur'
 have hother : ∀ b, b ≠ G -> w'.heap[b]? = w.heap[b]? := fun b hb => setRow_other w G b _ hb;have hsame : w'.heap[G]? = some (.cells cur' e' (0, 0)) := setRow_heap w G _ _ e' (0, 0) hgB;have h2 := h1.sync (m := env.length) (fun r _ => hs1 r) (by omega) hl hlv (w' := w') (y := xs.set i0.toNat x') (fun cs bs hrel uu huu => by
  obtain ⟨B', n2, cp2, A', n3, cp3, k1, k2, k3, k4, k5⟩ := near cs bs hrel;have huu : (cs q)[j]? = some uu := huu;obtain ⟨_, hru⟩ := leafv cs bs hrel;obtain ⟨G', cur2, j1, j2, j3, j4, bd, j5, j6, j7⟩ := Y7f hrel hlv hl k1 rfl k2 k3 k4 hleaf hus hne hru hu hux;subst j1;rw [c5] at k5;have hG : G = G' := by
   rw [Y17, Y17] at k5;simpa using k5
  subst hG;rw [hgB] at j3;simp only [X0, Obj.cells.injEq, and_true] at j3;subst j3;rw [k1] at huu;obtain rfl := Xr huu;have hltG : G < w.heap.size := (hrel.own _ _ _ j2).2;have hsz : w'.heap.size = w.heap.size := setRow_size _ _ _;refine ⟨below_setRow (X1b _ _) (hrel.own _ _ _ j2).1.1 _, fun b hb hb1 _ => hother b (fun e => hb1 (e ▸ j2)), bd, fun b hb => ?_, j6, j7 w' hsame (fun b _ hb => hother b hb)⟩;rw [hsz];exact ⟨(hrel.own _ _ _ (j5 b hb)).2, .inr (.inl (j5 b hb))⟩)
 refine Y3z hdst (w' := w') ?_ (by unfold syncPlace; rw [Y6, Y7]; exact hlen1) h2 (fun r => ?_) hK hn
 ·have hsize := TabOk.sizeOf hT ht;have hcs : (evT a.tmps v).cells.size = τ.sz := by rw [<- X12]; show us.length = _; rw [<- hus, hll]
  have hst := run_storeCells_at P G off e' us 0 cur w hgB (by simpa using hfit) hone;rw [X2c] at hst;have c5 : evT a.tmps x = .pointer (some ⟨G, off, none⟩) := by rw [c5, Y17, X13]
  simp [execOp, hop, Y5, c5, Instr.storeAt, Instr.sureAddr, storeVar, hsize, hcs];rw [show Sem.run P (storeCells { block := G, off := off } (evT a.tmps v).cells.toList) w = .ok () w' from hst];rfl
 ·by_cases hr : r = env.length
  ·subst hr; rw [Y0]
  ·rw [Y1 _ _ hr]; show upd noP env.length _ r = _; rw [Y1 _ _ hr]; rfl
end
section
variable {P : Program} {o : Oper} {a : Act} {w : World} {R : Type} {K : Env -> Option R} {r : R} {next : Act -> World -> Prop} {Q : Exit -> Act -> World -> Prop} {c : Cx} {d : Nat} {T : Tab} {env : Env} {sig : FuncId -> Option Sig} {caps : FuncId -> List Ty} {orc : Orc}
theorem Yej (hlen : env.length = tmps.size) (hrel : Rel c (SS env noP tmps vs w cs bs)) (hno : ∀ r, (∀ q ∈ (ovl env noP r).refs, q.1 < env.length) /\ (∀ q ∈ (ovl env noP r).ptrs, q < env.length)) {ls ls' : List Leaf} {x y : t.D} {L : Places}
  (hv : ValC c (SS env noP tmps vs w cs bs) (.con k ls) v cells) (hty : typedAs ls t = true) (hnow : argNow env ls = some ls') (hx : asm t ls' = some (x, [])) (hM : mutOf env ls (leaves t y (fun _ => .at_ .dp) 0) = some L) : MutOk c env tmps w vs bs t cells ls x y L := by
 obtain rfl : ls' = ls := (Xr hnow).symm;exact Yei hlen hrel hno hv hty hx hM
theorem Y7g {qs : List (Nat × Nat)} {v : AV} (h : apart qs v = true) : (∀ q ∈ v.refs, q ∉ qs) /\ (∀ r ∈ v.ptrs, ∀ q ∈ qs, r ≠ q.1) := by
 simp only [apart, X8, Xd, X1j, X2h, beq_eq_false_iff_ne] at h;refine ⟨fun q hq hm => ?_, fun r hr q hq => h.2 r hr q hq⟩;have := h.1 q hq q hm;rcases this with h | h <;> exact h rfl
theorem Ydu (hO : OrcOk P sig orc) {cl : Call} {extra : List AV} {ex : List Value} (hop : o.op = .call cl) (hdst : o.dst = some d) (hr : RE c env a.tmps w) (hd : d < env.length)
  (hrun : Enterable P f -> (execOp a.eval o).run P w = .ok (.enter f (cl.args.map (evT a.tmps) ++ ex.toArray)) w) (hex : ∀ vs cs bs, Rel c (SS env noP a.tmps vs w cs bs) -> ValCs c (SS env noP a.tmps vs w cs bs) extra ex) (hsg : sig f = some sg) (hbx : sg.box = none /\ sg.newb = none) (hm : sg.muts = true) (how : sg.own = false) (hK : callM caps orc (some d) f sg cl.args.toList extra env K = some r) (hn : Next c a K r env.length next) : o.wp P a w next Q := by
 unfold callM at hK;split at hK
 ·rename_i t ps a0 as hps has;split at hK
  ·rename_i k ls hrd;simp only at hK;split at hK
   ·rename_i hc;obtain ⟨⟨hk, hty⟩, ⟨hl1, hl2⟩, hfl, hap⟩ := hc;cases hnow : argNow env ls with
    | none => grind
    | some ls' =>
     rw [hnow] at hK;simp at hK;split at hK
     ·rename_i x hx;split at hK
      ·simp at hK
      ·rename_i rvs hrv;split at hK
       ·simp at hK
       ·rename_i q hq;obtain ⟨z0, hres, hK⟩ := Xx.1 hK;obtain ⟨hent, hspec⟩ := hO f sg _ q z0 hsg hq hres;rw [hbx.1, hbx.2, hm, how] at hspec;obtain ⟨t', x0, rest, y, ys, e1, e2, hspec⟩ := hspec;simp at e1;obtain ⟨⟨rfl, e1⟩, rfl⟩ := e1;subst e1;rw [e2] at hK;simp [dif_pos] at hK;split at hK
        ·simp at hK
        ·rename_i L hM;cases hra : resAV sg.results ys with
         | none => grind
         | some av =>
          rw [hra] at hK;obtain ⟨vs, hlen, cs, bs, hrel, hno⟩ := hr;obtain ⟨cells, hv⟩ := Yh hlen hrel (some t) a0;rw [hrd] at hv;obtain ⟨b0, hrep, hnd, hin, hafter⟩ := Yej hlen hrel hno hv hty hnow hx hM;have hval : evT a.tmps a0 = mkV t.isAgg cells := by
           obtain ⟨g1, _⟩ := hv;subst hk;unfold Ty.kind at g1;split at g1
           ·rename_i ha;rw [ha]; exact g1.1
           ·rename_i ha;have ha : t.isAgg = false := by simpa using ha
            rw [ha, g1.1]; rfl
          generalize hvs : rdArgs env ps as ++ extra = avs at *;have hargl : as.length <= ps.length := by rw [<- hl1, hl2]; omega
          have hvals : ValCs c (SS env noP a.tmps vs w cs bs) avs (as.map (evT a.tmps) ++ ex) := by
           rw [<- hvs];exact (Y3o hlen hrel hargl).1.append (hex vs cs bs hrel)
          let S : Nat -> Prop := fun b => RoS c (SS env noP a.tmps vs w cs bs) b \/ (∃ v ∈ avs, ∃ q ∈ v.refs, b ∈ bs q.1 (q.2 + 1)) \/ ∃ v ∈ avs, ∃ q ∈ v.ptrs, ∃ l, b ∈ bs q l
          have hrvr : RVRels S w rvs (as.map (evT a.tmps) ++ ex) :=
           Y61 hrel (fun b hb => .inl hb) hvals hrv (fun v hv q hq b hb => .inr (.inl ⟨v, hv, q, hq, hb⟩)) (fun v hv q hq l b hb => .inr (.inr ⟨v, hv, q, hq, l, hb⟩))
          have hS : ∀ b, S b -> b ∉ b0 := by
           intro b hb hb0;obtain ⟨q, hq, hbq⟩ := hin b hb0;rcases hb with hb | ⟨v, hv, q', hq', hb⟩ | ⟨v, hv, q', hq', l, hb⟩
           ·exact hb.1 _ _ hbq
           ·have := Y7g (Xd.1 hap v hv);obtain ⟨h1, h2⟩ := hrel.disj _ _ _ _ _ hb hbq;refine this.1 q' hq' ?_;have : q' = q := Prod.ext h1 (by omega);rw [this]; exact hq
           ·have := Y7g (Xd.1 hap v hv);exact this.2 q' hq' q hq (hrel.disj _ _ _ _ _ hb hbq).1
          have hb0 : ∀ b ∈ b0, c.base <= b := fun b hb => let ⟨q, _, h⟩ := hin b hb; (hrel.own _ _ _ h).1.1
          unfold Oper.wp;rw [hrun hent];have hargs : cl.args.map (evT a.tmps) ++ ex.toArray = (mkV t.isAgg cells :: (as.map (evT a.tmps) ++ ex)).toArray := by simp_all
          rw [hargs];refine X2z (hspec S w cells _ b0 c.base hrep hnd hb0 hrel.base hrvr hS) ?_
          rintro e w' ⟨chs, bsx, b1, rfl, hb, hsame, hrep', hnd1, hnew, hres'⟩
          rw [hdst];have hRP := hafter w' b1 hb hsame hrep' hnd1 hnew;obtain ⟨k', ls2, rfl, h1, h2, h3, bds, h4, h5, h6⟩ := Y5b hres' hra;have hflat := Yc0 hfl hra;have hmode := Y4q hra;have hsl : (syncs L env).length = env.length := Y21 _ _;have hadd := hRP.addVal (n := (syncs L env).length) (Xh _) rfl (av := .con k' ls2) (v := resVal sg.results chs) (fun cs' bs' hrel' => by
           refine ⟨chs.flatten, h1.bare rfl, h2, fun l lf u hl hu => ?_⟩;rw [Y2] at hl;obtain ⟨m, hm', hr'⟩ := h6 l lf u hl hu;have hf := hflat lf (Xa hl);have hmd := hmode lf (Xa hl);obtain ⟨lt, lx, lm⟩ := lf;simp only at hm' hr';subst hm';exact ⟨(Rep.flat hf hr').2, by cases m <;> first | trivial | exact absurd rfl (hmd _)⟩) (by
           have := Ye (k := k') h3;rw [this.1, this.2];exact ⟨by simp, by simp⟩)
          have := RE.commit hadd (by rw [hsl]; exact hd);rw [Y0] at this;exact hn _ _ _ hK this (by rw [Y1k, hsl]) rfl
     ·simp at hK
   ·simp at hK
  ·simp at hK
 ·simp at hK
end
theorem Y6c (hlen : env.length = tmps.size) (h : Rel c (SS env ps tmps vs w cs bs)) : ∀ {ptys : List PTy} {args : List Operand}, args.length <= ptys.length -> ValCs c (SS env ps tmps vs w cs bs) (rdArgs env ptys args) (args.map (evT tmps))
 | [], [], _ => rfl
 | p :: ptys, [], _ => rfl
 | [], x :: args, hl => by simp at hl
 | p :: ptys, x :: args, hl => ⟨_, _, rfl, Yh hlen h _ x, Y6c hlen h (ptys := ptys) (args := args) (by simpa using hl)⟩
section
variable {P : Program} {o : Oper} {a : Act} {w : World} {R : Type} {K : Env -> Option R} {r : R} {next : Act -> World -> Prop} {Q : Exit -> Act -> World -> Prop} {c : Cx} {d : Nat} {T : Tab} {env : Env} {sig : FuncId -> Option Sig} {caps : FuncId -> List Ty} {orc : Orc}
theorem RP.handed (hlen : env.length = tmps.size) (hr : Rel c (SS env ps tmps vs w cs bs)) (hno : ∀ r, (∀ q ∈ (ovl env ps r).refs, q.1 < env.length) /\ (∀ q ∈ (ovl env ps r).ptrs, q < env.length)) (hn : env.length <= n) {x : t.D} (hp : ps n = .con .val [⟨t, x, .at_ .dp⟩]) :
  Rep (fun _ => False) w t .dp [vs n] x (bs n 1) /\ ∀ (w' : World) (v' : Value) (y : t.D) (b1 : List Nat), Below c.base w w' -> (∀ b, b < w.heap.size -> b ∉ bs n 1 -> w'.heap[b]? = w.heap[b]?) -> Rep (fun _ => False) w' t .dp [v'] y b1 -> b1.Nodup -> (∀ b ∈ b1, b ∈ bs n 1 \/ w.heap.size <= b) ->
   RP c env tmps w' (upd ps n (.con .val [⟨t, y, .at_ .dp⟩])) (upd vs n v') := by
 obtain ⟨hrep, hb0, hcn⟩ := Y4s hlen hr hn hp;refine ⟨Rep.dpS hrep, fun w' v' y b1 hb hh hrep' hnd hin => ?_⟩;have e : upd (upd ps n .undef) n (.con .val [⟨t, y, .at_ .dp⟩]) = upd ps n (.con .val [⟨t, y, .at_ .dp⟩]) := by
  funext r; simp [upd]; split <;> rfl
 have := RP.reformAt hlen hr hno (n := n) (m := n) hn hn (av := .con .val [⟨t, y, .at_ .dp⟩]) (v := v') (w' := w') ⟨by simp [AV.refs, Leaf.refs], by simp [AV.ptrs]⟩ hb (fun b hb' hne => hh b hb' (hne 1)) [v'] (fun l => if l = 1 then b1 else []) ?_ ?_ ?_ ?_
 ·grind
 ·intro l b hb';by_cases hl : l = 1
  ·subst hl;rw [X3 rfl] at hb';refine ⟨Rep.lt hrep' b hb', ?_⟩;rcases hin b hb' with h | h
   ·grind
   ·exact .inl h
  ·grind
 ·grind
 ·grind
 ·intro s' hk;have ebs : s'.bs n = fun l => if l = 1 then b1 else [] := Y0 _ _ _
  have ecs : s'.cs n = [v'] := Y0 _ _ _;refine ⟨⟨ecs, by rw [ebs]; rfl⟩, by rw [ecs]; rfl, fun l hl => ?_, fun l lf u hl hu => ?_⟩
  ·rw [ebs];simp at hl;exact X6 (by omega)
  ·rw [ecs] at hu;have hl0 : l = 0 := by grind
   subst hl0;obtain rfl : lf = ⟨t, y, .at_ .dp⟩ := by simpa [leafAt] using hl.symm
   obtain rfl : u = v' := by grind
   refine LeafRel.of_rep trivial ?_;rw [ebs];exact Rep.dpS hrep'
theorem Ydv (hO : OrcOk P sig orc) {cl : Call} {extra : List AV} {ex : List Value} (hop : o.op = .call cl) (hdst : o.dst = some d) (hr : RE c env a.tmps w) (hd : d < env.length)
  (hrun : Enterable P f -> (execOp a.eval o).run P w = .ok (.enter f (cl.args.map (evT a.tmps) ++ ex.toArray)) w) (hex : ∀ vs cs bs, Rel c (SS env noP a.tmps vs w cs bs) -> ValCs c (SS env noP a.tmps vs w cs bs) extra ex) (hsg : sig f = some sg) (hbx : sg.box = none /\ sg.newb = none) (hm : sg.muts = true) (how : sg.own = true) (hK : callO caps orc (some d) f sg cl.args.toList extra env K = some r) (hn : Next c a K r env.length next) : o.wp P a w next Q := by
 unfold callO at hK;split at hK
 ·rename_i t ps a0 as hps has;split at hK
  ·rename_i env2 l hg;split at hK
   ·rename_i x hx;simp only at hK;split at hK
    ·rename_i hc;obtain ⟨⟨hex0, hlm, hagg⟩, ⟨hl1, hl2⟩, hap⟩ := hc;split at hK
     ·simp at hK
     ·rename_i rvs hrv;split at hK
      ·simp at hK
      ·rename_i q hq;obtain ⟨z0, hres, hK⟩ := Xx.1 hK;obtain ⟨hent, hspec⟩ := hO f sg _ q z0 hsg hq hres;rw [hbx.1, hbx.2, hm, how] at hspec;obtain ⟨t', x0, rest, y, e1, e2, hspec⟩ := hspec;simp at e1;obtain ⟨⟨rfl, e1⟩, rfl⟩ := e1;subst e1;rw [e2] at hK;simp at hK;have hex0 : extra = [] := by grind
       subst hex0;obtain ⟨vs, hRP⟩ := hr;have hexv : ex = [] := by
        obtain ⟨_, cs, bs, hrel, _⟩ := hRP;exact hex vs cs bs hrel
       subst hexv;obtain ⟨hl, h1⟩ := Y8f hRP (fun _ => .inl rfl) hg (n := env.length) (Xh _) rfl;have hle := Leaf.as_eq hx;rw [hlm] at hle;rw [hle] at h1;obtain ⟨hlen, cs, bs, hrel, hno⟩ := h1;obtain ⟨hrep, hafter⟩ := RP.handed hlen hrel hno (n := env.length) (by omega) (Y0 _ _ _);rw [Y0] at hrep;have hb0 : ∀ b ∈ bs env.length 1, c.base <= b := fun b hb => (hrel.own _ _ _ hb).1.1;have hargl : as.length <= ps.length := by omega
       have hvals := Y6c hlen hrel hargl;have hap' : ∀ v ∈ rdArgs env2 ps as, v.refs = [] /\ v.ptrs = [] := by grind
       have hrvr : RVRels (RoS c (SS env2 (upd noP env.length (.con .val [⟨t, x, .at_ .dp⟩])) a.tmps (upd vs env.length (evT a.tmps a0)) w cs bs)) w rvs (as.map (evT a.tmps)) :=
        Y61 hrel (fun b hb => hb) hvals hrv (fun v hv q hq => by rw [(hap' v hv).1] at hq; simp at hq) (fun v hv q hq => by grind)
       unfold Oper.wp;rw [hrun hent];have hargs : cl.args.map (evT a.tmps) ++ ([] : List Value).toArray = (evT a.tmps a0 :: as.map (evT a.tmps)).toArray := by
        rw [show evT a.tmps a0 :: as.map (evT a.tmps) = cl.args.toList.map (evT a.tmps) by rw [has]; rfl];rw [<- X38, X1g];simp
       rw [hargs];refine X2z (hspec _ w _ _ _ c.base hrep (hrel.nodup _ _) hb0 hrel.base hrvr (fun b hb => hb.1 _ _)) ?_
       rintro e w' ⟨v', b1, rfl, hbel, hsame, hrep', hnd1, hnew⟩
       rw [hdst];have h2 := hafter w' v' y b1 hbel hsame hrep' hnd1 hnew;have eu : upd (upd noP env.length (.con .val [⟨t, x, .at_ .dp⟩])) env.length (.con .val [⟨t, y, .at_ .dp⟩]) = upd noP env2.length (.con .val [⟨t, y, .at_ .dp⟩]) := by
        rw [hl]; funext r; simp [upd]; split <;> rfl
       rw [eu] at h2;have := RE.commit h2 (by rw [hl]; exact hd);rw [hl, Y0] at this;exact hn _ _ _ hK this (by rw [Y1k, hl]) rfl
    ·simp at hK
   ·simp at hK
  ·simp at hK
 ·simp at hK
end
section
variable {P : Program} {o : Oper} {a : Act} {w : World} {R : Type} {K : Env -> Option R} {r : R} {next : Act -> World -> Prop} {Q : Exit -> Act -> World -> Prop} {c : Cx} {d : Nat} {T : Tab} {env : Env} {sig : FuncId -> Option Sig} {caps : FuncId -> List Ty} {orc : Orc}
theorem Ydw (hO : OrcOk P sig orc) {k : Nat} {cl : Call} {extra : List AV} {ex : List Value} (hop : o.op = .call cl) (hdst : o.dst = some d) (hr : RE c env a.tmps w) (hd : d < env.length)
  (hrun : Enterable P f -> (execOp a.eval o).run P w = .ok (.enter f (cl.args.map (evT a.tmps) ++ ex.toArray)) w) (hex : ∀ vs cs bs, Rel c (SS env noP a.tmps vs w cs bs) -> ValCs c (SS env noP a.tmps vs w cs bs) extra ex) (hsg : sig f = some sg) (hbx : sg.box = none /\ sg.newb = none) (hm : sg.muts = false) (how : sg.own = true) (hgv : sg.give = some k) (hK : callG caps orc k (some d) f sg cl.args.toList extra env K = some r) (hn : Next c a K r env.length next) : o.wp P a w next Q := by simp [callG] at hK
end
theorem Y9s : ∀ {xs : List Int} {cells : List Value} {b : List Nat}, El (Rep S w (.int .u8) .ro) 1 cells xs b -> cells = xs.map (Value.int .u8)
 | [], cells, b, h => h.1
 | x :: xs, cells, b, ⟨c, cs, b0, b1, e, _, _, h1, h2⟩ => by
  rw [e, h1.1, Y9s h2]; rfl
section
variable {P : Program} {o : Oper} {a : Act} {w : World} {R : Type} {K : Env -> Option R} {r : R} {next : Act -> World -> Prop} {Q : Exit -> Act -> World -> Prop} {c : Cx} {d : Nat} {T : Tab} {env : Env}
theorem Ydx (hT : TabOk P T) {s dt : TypeId} {b : ByteArray} (hop : o.op = .convert s dt x) (hdst : o.dst = some d) (hr : RE c env a.tmps w) (hd : d < env.length) (hb : bytesOf T s dt (fun ty => rd ty env x) = some b)
  (hK : K (setD (some d) env (vStr b)) = some r) (hn : Next c a K r env.length next) : o.wp P a w next Q := by
 unfold bytesOf at hb;split at hb
 ·rename_i e hs ht;split at hb
  ·rename_i he;split at hb
   ·rename_i lx hrd;have hrd : rd (some (.slice e (.int .u8))) env x = .con .val [lx] := hrd;split at hb
    ·rename_i xs has;split at hb
     ·rename_i hl;obtain rfl := Xr hb;have hr0 := hr;obtain ⟨vs, h0⟩ := hr0;obtain ⟨cs, bs, h1, _⟩ := h0.rel;obtain ⟨cells, hv⟩ := Yh h0.len h1 (some (.slice e (.int .u8))) x;rw [hrd] at hv;obtain ⟨S, hS⟩ := Y29 hv hl;rw [Leaf.as_eq has] at hS;obtain ⟨v, ch, b0, b1, e1, _, hel, _, A, cp, e2, hlc, hz, hc⟩ := hS;have e1 : evT a.tmps x = v := by simpa using e1
      have hch := Y9s hel;refine finV hr hdst (v := .string (strOfNums xs)) ?_ hd (fun vs cs bs _ => Y81 _ _ _) Y9b hK hn;have key : (Go.convert s dt (.slice A xs.length cp)).run P w = .ok (.string (strOfNums xs)) w := by
       have hs' := TabOk.slice hT hs;have he' := TabOk.int hT he;have ht' := TabOk.str hT ht;cases A with
       | none =>
        have hn0 : xs = [] := by simp_all
        subst hn0;exact run_convert_bytes_nil w s e hs' he' 0 cp dt ht'
       | some A =>
        have hl : (loadCells A xs.length).run P w = .ok (xs.map (Value.int .u8)).toArray w := by
         have := run_loadCells_list (P := P) w A (xs.map (Value.int .u8)) (fun j u hj => by
          rw [<- hch] at hj;obtain ⟨a', h1, _, h2⟩ := hc j u hj;cases h1;exact h2)
         simpa using this
        rw [run_convert_bytes_string w s dt e _ _ cp hs' he' ht', run_bytesToString w _ xs.length cp xs hl, foldl_push_bytes];simp [strOfNums, ByteArray.empty, ByteArray.emptyWithCapacity];rfl
      have key2 : (Go.convert s dt (evT a.tmps x)).run P w = .ok (.string (strOfNums xs)) w := by grind
      simp [execOp, hop, Y5, key2]
     ·simp at hb
    ·simp at hb
   ·simp at hb
  ·simp at hb
 ·simp at hb
end
theorem Rel.split2 (h : Rel c s) {n m : Nat} (hnm : m ≠ n) (hno : ∀ r, (∀ q ∈ (s.env r).refs, q.1 ≠ n /\ q.1 ≠ m) /\ (∀ q ∈ (s.env r).ptrs, q ≠ n /\ q ≠ m)) (av av2 : AV) (v : Value) (cd cd2 : List Value) (bd bd2 : Nat -> List Nat)
  (k1 : ∀ l b, b ∈ bd l -> ∃ l', b ∈ s.bs m l') (k2 : ∀ l b, b ∈ bd2 l -> ∃ l', b ∈ s.bs m l') (d1 : ∀ l l' b, b ∈ bd l -> b ∈ bd l' -> l = l') (d2 : ∀ l l' b, b ∈ bd2 l -> b ∈ bd2 l' -> l = l') (d3 : ∀ l l' b, b ∈ bd l -> b ∉ bd2 l') (n1 : ∀ l, (bd l).Nodup) (n2 : ∀ l, (bd2 l).Nodup)
  (hav : let s' : St := ⟨upd (upd s.env m av2) n av, upd s.tm n v, s.w, upd (upd s.cs m cd2) n cd, upd (upd s.bs m bd2) n bd⟩; Keeps c s s' -> AVRel c s' n av v /\ AVRel c s' m av2 (s.tm m)) :
  Rel c ⟨upd (upd s.env m av2) n av, upd s.tm n v, s.w, upd (upd s.cs m cd2) n cd, upd (upd s.bs m bd2) n bd⟩ := by
 let s' : St := ⟨upd (upd s.env m av2) n av, upd s.tm n v, s.w, upd (upd s.cs m cd2) n cd, upd (upd s.bs m bd2) n bd⟩
 have hsame : ∀ r, ¬ (r = n \/ r = m) -> s'.env r = (s.env r).chg noG /\ s'.tm r = s.tm r /\ s'.cs r = s.cs r /\ s'.bs r = s.bs r := fun r hr => by
  simp only [X33] at hr;refine ⟨by rw [AV.chg_no]; show upd _ _ _ r = _; rw [Y1 _ _ hr.1, Y1 _ _ hr.2], Y1 _ _ hr.1, ?_, ?_⟩ <;>
  ·show upd _ _ _ r = _;rw [Y1 _ _ hr.1, Y1 _ _ hr.2]
 have hbn : s'.bs n = bd := Y0 _ _ _;have hbm : s'.bs m = bd2 := by show upd _ _ _ m = _; rw [Y1 _ _ hnm, Y0]
 have hpl : ∀ r j, r ≠ n /\ r ≠ m -> SamePl s s' r j := fun r j hr => by
  have hs := hsame r (by simp only [X33]; exact hr);exact ⟨fun lf u ho => ho.chg hs.1 hs.2.2.1, by rw [hs.2.2.2], fun b _ => rfl⟩
 have hpt : ∀ r, r ≠ n /\ r ≠ m -> SamePtr s s' r := fun r hr => by
  have hs := hsame r (by simp only [X33]; exact hr);exact SamePtr.chg hs.1 hs.2.1
 have hin : ∀ r l b, (r = n \/ r = m) -> b ∈ s'.bs r l -> ∃ l', b ∈ s.bs m l' := fun r l b hD hb' => by
  rcases hD with rfl | rfl
  ·rw [hbn] at hb'; exact k1 l b hb'
  ·rw [hbm] at hb'; exact k2 l b hb'
 refine Rel.step (s' := s') noG h (fun r => r = n \/ r = m) (fun r _ => r ≠ n /\ r ≠ m) (fun r => r ≠ n /\ r ≠ m) hsame (X1b _ _) (fun b hl hD => rfl)
  (fun r l b hD hb' => ?_) (fun r l r' l' b hD hD' hb1 hb2 => ?_) (fun r l hD => ?_) (fun r _ => hno r) (fun hk => ⟨Yp hk hpl, Y16 hk hpl, fun r hL _ => hpt r hL⟩) (fun hk r hD => ?_)
 ·obtain ⟨l', h1⟩ := hin r l b hD hb';exact ⟨(h.own _ _ _ h1).2, .inr ⟨m, l', .inr rfl, h1⟩⟩
 ·rcases hD with rfl | rfl <;> rcases hD' with rfl | rfl
  ·rw [hbn] at hb1 hb2; exact ⟨rfl, d1 _ _ _ hb1 hb2⟩
  ·rw [hbn] at hb1; rw [hbm] at hb2; exact absurd hb2 (d3 _ _ _ hb1)
  ·rw [hbm] at hb1; rw [hbn] at hb2; exact absurd hb1 (d3 _ _ _ hb2)
  ·rw [hbm] at hb1 hb2; exact ⟨rfl, d2 _ _ _ hb1 hb2⟩
 ·rcases hD with rfl | rfl
  ·rw [hbn]; exact n1 l
  ·rw [hbm]; exact n2 l
 ·obtain ⟨h1, h2⟩ := hav hk;rcases hD with rfl | rfl
  ·have e1 : s'.env r = av := Y0 _ _ _;have e2 : s'.tm r = v := Y0 _ _ _;rw [e1, e2]; exact h1
  ·have e1 : s'.env r = av2 := by show upd _ _ _ r = _; rw [Y1 _ _ hnm, Y0]
   have e2 : s'.tm r = s.tm r := Y1 _ _ hnm;rw [e1, e2]; exact h2
section
variable {P : Program} {o : Oper} {a : Act} {w : World} {Q : Exit -> Act -> World -> Prop} {c : Cx} {d : Nat} {T : Tab} {env : Env}
theorem Y7h (hr : RE c env tmps w) : RE c (preTup o env) tmps w /\ (preTup o env).length = env.length := ⟨hr, rfl⟩
theorem Y91 (hr : RE c env a.tmps w) (hdst : o.dst = some d) (hd : d < env.length) {env' : Env} (h : tupStep o d env = some env')
  (hn : ∀ a' w', RE c env' a'.tmps w' -> env'.length = env.length -> a'.defers = a.defers -> next a' w') : o.wp P a w next Q := by cases h
end
theorem El.cutB {α : Type} {P : List Value -> α -> List Nat -> Prop} : ∀ {l : List α} {xs : List Value} {bs : List Nat} (i : Nat) (h : i < l.length), El P n xs l bs ->
  ∃ c b0 b b1, c.length = n /\ (∀ (j : Nat) (u : Value), c[j]? = some u -> xs[i * n + j]? = some u) /\ bs = b0 ++ b ++ b1 /\ P c l[i] b /\ El P n (xs.drop ((i + 1) * n)) (l.drop (i + 1)) b1
 | [], _, _, i, h, _ => by simp at h
 | x :: r, xs, bs, 0, h, ⟨c, xs', b, bs', e, l, eb, p, t⟩ => by
  refine ⟨c, [], b, bs', l, fun j u hu => ?_, by simpa using eb, p, ?_⟩
  ·rw [e, Nat.zero_mul, X13, Xo (X5.1 hu).1]; exact hu
  ·have : (c ++ xs').drop n = xs' := by rw [<- l]; simp
   rw [e, X13, Nat.one_mul, this]; exact t
 | x :: r, xs, bs, i + 1, h, ⟨c, xs', b, bs', e, l, eb, p, t⟩ => by
  obtain ⟨c1, b0, b1, b2, e1, e2, e3, e4, e5⟩ := El.cutB i (by simpa using h) t;refine ⟨c1, b ++ b0, b1, b2, e1, fun j u hu => ?_, by rw [eb, e3]; simp [X7], e4, ?_⟩
  ·have := e2 j u hu;rw [e, Xe (by rw [l, X1q]; omega), l, X1q]
   rwa [show i * n + 1 * n + j - n = i * n + j by omega]
  ·have h1 : (i + 1 + 1) * n = c.length + (i + 1) * n := by rw [l, X1q (i + 1)]; omega
   have h2 : (c ++ xs').drop ((i + 1 + 1) * n) = xs'.drop ((i + 1) * n) := by rw [h1]; simp
   rw [e, h2];exact e5
theorem Yc1 (t : Ty) : ∀ (x : t.D) (n : Nat), ∀ lf ∈ leaves t x (fun _ => .at_ .dp) n, lf.m = .at_ .dp \/ lf.m = .at_ .ro := by
 induction t with
 | pair a b iha ihb => intro x n lf h; simp only [leaves, X4] at h; exact h.elim (iha _ _ _) (ihb _ _ _)
 | unit => intro x n lf h; simp [leaves] at h
 | slice e t _ => intro x n lf h; simp only [leaves, X9] at h; rw [h]; exact .inl rfl
 | _ => intro x n lf h; simp only [leaves, X9] at h; rw [h]; exact .inr rfl
theorem El.nodup_parts {b0 b b1 : List Nat} (h : (b0 ++ b ++ b1).Nodup) : b.Nodup /\ b1.Nodup /\ ∀ k ∈ b, k ∉ b1 := by
 obtain ⟨h1, h2, h3⟩ := Xq.1 h;obtain ⟨_, h5, _⟩ := Xq.1 h1;exact ⟨h5, h2, fun k hk hk1 => h3 k (Xc _ hk) k hk1 rfl⟩
theorem Y30 : ∀ (env : Env) (d : Nat) (u v : AV), put (put env d u) d v = put env d v
 | [], _, _, _ => rfl
 | _ :: _, 0, _, _ => rfl
 | x :: env, d + 1, u, v => by simp [put, Y30 env d u v]
section
variable {P : Program} {o : Oper} {a : Act} {w : World} {Q : Exit -> Act -> World -> Prop} {c : Cx} {d : Nat} {T : Tab} {env : Env} {caps : FuncId -> List Ty}
theorem RP.toPart (h : RP c env tmps w noP vs) {s : Nat} {x : List t.D} (hk : get env s = .con .val [⟨.slice e t, x, .at_ .dp⟩]) : RP c (put (killRoot s env) s (.part e t x 0)) tmps w noP vs := by
 have hsl : s < env.length := Ys hk;obtain ⟨hlen, cs, bs, hr, hno⟩ := h
 replace hr : Rel c (SS env noP tmps vs w cs bs) := hr
 obtain ⟨hk2, hk3⟩ := hr.killRoot_ s
 let E := chgE (killG s) (ovl env noP)
 have hEs : E s = .con .val [⟨.slice e t, x, .at_ .dp⟩] := by show (ovl env noP s).chg _ = _; rw [Y8 hsl, hk]; rfl
 have hav := hk2.av s;simp only [show chgE (killG s) (ovl env noP) s = _ from hEs] at hav;obtain ⟨⟨q1, q2⟩, _, _, g4⟩ := hav;have q1 : cs s = [ovlT tmps vs s] := q1;have h6 := g4 0 _ (ovlT tmps vs s) rfl (by show (cs s)[0]? = _; rw [q1]; rfl);have hrep : Rep (RoS c ⟨E, ovlT tmps vs, w, cs, bs⟩) w (.slice e t) .dp [ovlT tmps vs s] x (bs s 1) := h6.1;have hnd := hk2.nodup s 1;have hnd : (bs s 1).Nodup := hnd;obtain ⟨v, xs, b0, b1, e1, e2, hel, eb0, hown⟩ := hrep;have e1 : ovlT tmps vs s = v := by simpa using e1
 rw [e2] at hnd;obtain ⟨_, hnd1, hdj⟩ := Xq.1 hnd;have hob : ∀ k, v.ownBlock = some k -> k ∈ bs s 1 /\ k ∉ b1 := fun k hk => by
  have : k ∈ b0 := by rw [eb0]; exact Yi.2 hk
  exact ⟨by rw [e2]; exact Xb _ this, fun hm => hdj k this k hm rfl⟩
 let bd : Nat -> List Nat := fun l => if l = 0 then b1 else []
 have hbd : ∀ l b, b ∈ bd l -> l = 0 /\ b ∈ b1 := fun l b hb => by
  simp only [bd] at hb;split at hb
  ·exact ⟨by assumption, hb⟩
  ·simp at hb
 have hre := hk2.reform (n := s) (m := s) (w' := w) (fun r => ⟨fun q hq => ⟨(hk3 r).1 q hq, (hk3 r).1 q hq⟩, fun q hq => ⟨(hk3 r).2 q hq, (hk3 r).2 q hq⟩⟩) (X1b _ _) (fun _ _ _ => rfl) (.part e t x 0) (ovlT tmps vs s) [] bd
  (fun l b hb => by
   obtain ⟨_, hb⟩ := hbd l b hb;have hm : b ∈ bs s 1 := by rw [e2]; exact Xc _ hb
   exact ⟨(hk2.own _ _ _ hm).2, .inr ⟨1, .inl hm⟩⟩)
  (fun l l' b h1 h2 => by have := (hbd l b h1).1; have := (hbd l' b h2).1; omega)
  (fun l => by simp only [bd]; split; exact hnd1; exact X10)
  (fun hkeep => by
   refine ⟨fun l => by simp only [Y0]; exact X6 (by omega), by omega, ?_⟩;have hRo : ∀ k, v.ownBlock = some k -> RoS c ⟨upd (upd E s .undef) s (.part e t x 0), upd (ovlT tmps vs) s (ovlT tmps vs s), w, upd cs s [], upd (upd bs s (fun _ => [])) s bd⟩ k := fun k hk => by
    obtain ⟨m1, m2⟩ := hob k hk;refine ⟨fun r l hm => ?_, .inr (hk2.own _ _ _ m1).1⟩;have hm : k ∈ (upd (upd bs s (fun _ => [])) s bd) r l := hm;rw [Yf] at hm;by_cases hrs : r = s
    ·subst hrs;rw [Y0] at hm;exact m2 (hbd l k hm).2
    ·rw [Y1 _ _ hrs] at hm;exact hrs (hk2.disj _ _ _ _ _ hm m1).1
   obtain ⟨hxl, hcase⟩ := hown;have hel' : El (Rep (RoS c ⟨upd (upd E s .undef) s (.part e t x 0), upd (ovlT tmps vs) s (ovlT tmps vs s), w, upd cs s [], upd (upd bs s (fun _ => [])) s bd⟩) w t .dp) t.sz (xs.drop (0 * t.sz)) (x.drop 0) b1 := by
    rw [Nat.zero_mul, X32, X32];exact El.imp (fun c0 x0 b0 _ h0 => Rep.move hkeep (fun _ _ => rfl) h0) hel
   have eb : (upd (upd bs s (fun _ => [])) s bd) s 0 = b1 := by rw [Y0]; rfl
   rcases hcase with ⟨ev, en⟩ | ⟨g, cap, cur, ev, _, hg, h1, h2, h3, h4⟩
   ·refine ⟨none, 0, xs, ?_, hxl, fun j u hu => ?_, by show El _ _ _ _ ((upd (upd bs s (fun _ => [])) s bd) s 0); rw [eb]; exact hel'⟩
    ·rw [e1, ev, en]
    ·have := (X5.1 hu).1;rw [hxl, en] at this;omega
   ·refine ⟨some ⟨g, 0, none⟩, cap, xs, ?_, hxl, fun j u hu => ?_, by show El _ _ _ _ ((upd (upd bs s (fun _ => [])) s bd) s 0); rw [eb]; exact hel'⟩
    ·rw [e1, ev]
    ·have hlt : g < w.heap.size := (Xw.1 hg).1;refine ⟨_, rfl, hRo g (by rw [ev]; rfl), hlt, ?_⟩;rw [Y17];unfold World.cell?;rw [show w.heap[g]? = _ from hg];have : cur.toList[j]? = some u := by
      rw [<- h4, X1k] at hu;split at hu
      ·exact hu
      ·simp at hu
     simpa using this)
 have eE : upd (upd E s .undef) s (.part e t x 0) = ovl (put (killRoot s env) s (.part e t x 0)) noP := by
  unfold killRoot;rw [Y30, Yr (by rw [Y7]; exact hsl), <- Y2g _ _ noP (fun _ => .inl rfl), Yf]
 have etm : upd (ovlT tmps vs) s (ovlT tmps vs s) = ovlT tmps vs := by funext r; simp only [upd]; split <;> simp_all
 refine ⟨by rw [Y6, Y9]; exact hlen, _, _, Rel.congr hre eE etm, fun p => ?_⟩;rw [<- eE, Y6, Y9];simp only [upd];split
 ·exact ⟨by simp [AV.refs], by simp [AV.ptrs]⟩
 ·have := Yl (Y1h s) (ovl env noP p);exact ⟨fun z hz => (hno p).1 z (this.1 z hz), fun z hz => (hno p).2 z (this.2 z hz)⟩
theorem RP.takeAt (h : RP c env tmps w noP vs) {s : Nat} {x : List t.D} {m : Int} (hk : get env s = .part e t x m) (hsz : 0 < t.sz) {k : Nat} (hm : m <= k) (hkl : k < x.length) :
  ∃ A cp, tmps.getD s undef = .slice (some A) x.length cp /\ RP c (put env s (.part e t x (k + 1))) tmps w (upd noP env.length (.eown (leaves t (x.getD k t.dflt) (fun _ => .at_ .dp) 0))) (upd vs env.length (.pointer (some (A.add (k * t.sz))))) := by
 let N := env.length
 have hsl : s < env.length := by
  apply Xu;intro hn';rw [Y1c env s (X1n hn')] at hk;cases hk
 have hsN : s ≠ N := X1e hsl;obtain ⟨hlen, cs, bs, hr, hno⟩ := h
 replace hr : Rel c (SS env noP tmps vs w cs bs) := hr
 have es : (SS env noP tmps vs w cs bs).env s = .part e t x m := by show ovl env noP s = _; rw [Y8 hsl]; exact hk
 have et : (SS env noP tmps vs w cs bs).tm s = tmps.getD s undef := X3 (hlen ▸ hsl);have hnor : ∀ p, (∀ q ∈ (ovl env noP p).refs, q.1 ≠ N /\ q.1 ≠ s) /\ (∀ q ∈ (ovl env noP p).ptrs, q ≠ N /\ q ≠ s) := fun p => by
  obtain ⟨k1, k2⟩ := (hr.av p).refs_own;refine ⟨fun q hq => ⟨by have := (hno p).1 q hq; omega, fun e' => ?_⟩, fun q hq => ⟨by have := (hno p).2 q hq; omega, fun e' => ?_⟩⟩
  ·obtain ⟨lf, u, o1, _⟩ := k1 q hq;rw [e', es] at o1;simp [AV.leaf?] at o1
  ·obtain ⟨off, vv, e2, ls, B', o1, _⟩ := k2 q hq;rw [e', es] at o1;cases o1
 have hav := hr.av s;rw [es, et] at hav;obtain ⟨hb, h0, A0, cp, xs, ev, hxl, hcell, hel⟩ := hav;have hb : ∀ l, bs s (l + 1) = [] := hb;obtain ⟨m', rfl⟩ : ∃ m' : Nat, m = m' := ⟨m.toNat, by omega⟩;simp only [X35] at hel;have hmk : m' <= k := by omega
 obtain ⟨ch, b0, bi, b1, hchl, hch, hbs, hP, hel2⟩ := El.cutB (k - m') (by rw [X11]; omega) hel;have hbs : bs s 0 = b0 ++ bi ++ b1 := hbs;have hnd := hr.nodup s 0;have hnd : (bs s 0).Nodup := hnd;rw [hbs] at hnd;obtain ⟨n1, n2, n3⟩ := El.nodup_parts hnd;have hxk : (x.drop m')[k - m']'(by rw [X11]; omega) = x.getD k t.dflt := by
  rw [List.getElem_drop, Xm, X1 hkl];simp only [X2l];congr 1;omega
 rw [hxk] at hP;have hcx : ∀ (l : Nat) (u : Value), ch[l]? = some u -> xs[k * t.sz + l]? = some u := fun l u hu => by
  have := hch l u hu;rw [X1l] at this;have e : m' * t.sz + ((k - m') * t.sz + l) = k * t.sz + l := by rw [<- X28, <- X1q]; congr 2; omega
  rwa [e] at this
 have hel3 : El (Rep (RoS c (SS env noP tmps vs w cs bs)) w t .dp) t.sz (xs.drop ((k + 1) * t.sz)) (x.drop (k + 1)) b1 := by
  rw [List.drop_drop, List.drop_drop] at hel2;have e1 : m' * t.sz + (k - m' + 1) * t.sz = (k + 1) * t.sz := by rw [<- X1q]; congr 1; omega
  rw [e1, show m' + (k - m' + 1) = k + 1 by omega] at hel2;exact hel2
 obtain ⟨u0, hu0⟩ : ∃ u0, ch[0]? = some u0 := ⟨_, X1 (by omega)⟩;obtain ⟨A, rfl, hAr, hAl, _⟩ := hcell _ _ (hcx 0 u0 hu0);refine ⟨A, cp, ev, ?_⟩;obtain ⟨l1, l2, bds, l3, l4, l5⟩ := Y2h .dp t 0 hP;generalize hls : leaves t (x.getD k t.dflt) (fun _ => .at_ .dp) 0 = ls at *
 let bd : Nat -> List Nat := fun l => if l = 0 then bi else []
 let bd2 : Nat -> List Nat := fun l => if l = 0 then b1 else []
 have hbd : ∀ l b, b ∈ bd l -> l = 0 /\ b ∈ bi := fun l b hb => by
  simp only [bd] at hb;split at hb
  ·exact ⟨by assumption, hb⟩
  ·simp at hb
 have hbd2 : ∀ l b, b ∈ bd2 l -> l = 0 /\ b ∈ b1 := fun l b hb => by
  simp only [bd2] at hb;split at hb
  ·exact ⟨by assumption, hb⟩
  ·simp at hb
 have hsp := hr.split2 (n := N) (m := s) hsN hnor (.eown ls) (.part e t x (k + 1)) (.pointer (some (A.add (k * t.sz)))) [] [] bd bd2
  (fun l b hb => ⟨0, by show b ∈ bs s 0; rw [hbs]; exact Xb _ (Xc _ (hbd l b hb).2)⟩) (fun l b hb => ⟨0, by show b ∈ bs s 0; rw [hbs]; exact Xc _ (hbd2 l b hb).2⟩)
  (fun l l' b h1 h2 => by have := (hbd l b h1).1; have := (hbd l' b h2).1; omega) (fun l l' b h1 h2 => by have := (hbd2 l b h1).1; have := (hbd2 l' b h2).1; omega)
  (fun l l' b h1 h2 => n3 b (hbd l b h1).2 (hbd2 l' b h2).2)
  (fun l => by simp only [bd]; split; exact n1; exact X10) (fun l => by simp only [bd2]; split; exact n2; exact X10)
  (fun hkp => by
   have ebN : ∀ l, (upd (upd bs s bd2) N bd) N l = bd l := fun l => by rw [Y0]
   have ebS : ∀ l, (upd (upd bs s bd2) N bd) s l = bd2 l := fun l => by rw [Y1 _ _ hsN, Y0]
   obtain ⟨hA1, hA2⟩ := hkp _ hAr hAl;constructor
   ·refine ⟨fun l => (ebN (l + 1)).trans (X6 (by omega)), A.add (k * t.sz), bds, rfl, by rw [Addr.add_block]; exact hA1, by rw [Addr.add_block]; exact hAl, ?_, by rw [l3, l1], fun l lf hl => ?_⟩
    ·show (upd (upd bs s bd2) N bd) N 0 = _;rw [ebN, <- l4]; rfl
    ·have hlt : l < ch.length := by rw [<- l1]; exact (X5.1 hl).1
     obtain ⟨mm, g1, g2⟩ := l5 l lf _ hl (X1 hlt);obtain ⟨A', eA, _, _, hc2⟩ := hcell _ _ (hcx l _ (X1 hlt));obtain rfl := Xr eA;refine ⟨_, mm, by rw [Addr.add_add]; exact hc2, g1, fun h' e' => ?_, Rep.move hkp (fun _ _ => rfl) g2⟩;have hlm := Yc1 t (x.getD k t.dflt) 0 lf (by rw [hls]; exact Xa hl);rw [g1, e'] at hlm;rcases hlm with h | h <;> cases h
   ·refine ⟨fun l => (ebS (l + 1)).trans (X6 (by omega)), by omega, some A, cp, xs, by rw [et]; exact ev, hxl, fun j u hu => ?_, ?_⟩
    ·obtain ⟨a', k1, k2, k3, k4⟩ := hcell j u hu;exact ⟨a', k1, (hkp _ k2 k3).1, k3, k4⟩
    ·show El _ _ _ _ ((upd (upd bs s bd2) N bd) s 0);rw [ebS];have : ((k : Int) + 1).toNat = k + 1 := by omega
     rw [this];exact El.imp (fun c0 x0 b0 _ h0 => Rep.move hkp (fun _ _ => rfl) h0) hel3)
 have elen : (put env s (.part e t x (k + 1))).length = env.length := Y6 _ _ _;have eE : upd (upd (ovl env noP) s (.part e t x (k + 1))) N (.eown ls) = ovl (put env s (.part e t x (k + 1))) (upd noP env.length (.eown ls)) := by
  rw [Yb (by rw [elen]; exact Xh _), Yr hsl]
 refine ⟨by rw [elen]; exact hlen, _, _, Rel.congr hsp eE (Yv (by omega) _).symm, fun p => ?_⟩;rw [<- eE, elen];simp only [upd];split
 ·exact ⟨by simp [AV.refs], by simp [AV.ptrs]⟩
 ·split
  ·exact ⟨by simp [AV.refs], by simp [AV.ptrs]⟩
  ·exact hno p
theorem RP.loadTaken (h : RP c env tmps w noP vs) {s : Nat} (hk : get env s = .eown ls) (hlen' : ls.length = τ.sz) :
  ∃ (x0 : Addr) (ch : List Value), tmps.getD s undef = .pointer (some x0) /\ ch.length = τ.sz /\ (∀ (j : Nat) (u : Value), ch[j]? = some u -> w.cell? (x0.add j) = some u) /\ RP c (put env s .undef) tmps w (upd noP env.length (mkCon τ.isAgg ls)) (upd vs env.length (mkV τ.isAgg ch)) := by
 let N := env.length
 have hsl : s < env.length := by
  apply Xu;intro hn';rw [Y1c env s (X1n hn')] at hk;cases hk
 have hsN : s ≠ N := X1e hsl;obtain ⟨hlen, cs, bs, hr, hno⟩ := h
 replace hr : Rel c (SS env noP tmps vs w cs bs) := hr
 have es : (SS env noP tmps vs w cs bs).env s = .eown ls := by show ovl env noP s = _; rw [Y8 hsl]; exact hk
 have et : (SS env noP tmps vs w cs bs).tm s = tmps.getD s undef := X3 (hlen ▸ hsl);have hnor : ∀ p, (∀ q ∈ (ovl env noP p).refs, q.1 ≠ N /\ q.1 ≠ s) /\ (∀ q ∈ (ovl env noP p).ptrs, q ≠ N /\ q ≠ s) := fun p => by
  obtain ⟨k1, k2⟩ := (hr.av p).refs_own;refine ⟨fun q hq => ⟨by have := (hno p).1 q hq; omega, fun e' => ?_⟩, fun q hq => ⟨by have := (hno p).2 q hq; omega, fun e' => ?_⟩⟩
  ·obtain ⟨lf, u, o1, _⟩ := k1 q hq;rw [e', es] at o1;simp [AV.leaf?] at o1
  ·obtain ⟨off, vv, e2, ls, B', o1, _⟩ := k2 q hq;rw [e', es] at o1;cases o1
 have hav := hr.av s;rw [es, et] at hav;obtain ⟨hb, a0, bds, ev, hA, hAl, hb0, hbl, hlf⟩ := hav;have hb0 : bs s 0 = bds.flatten := hb0;have hnd : (bs s 0).Nodup := hr.nodup s 0;rw [hb0] at hnd;obtain ⟨n1, n2⟩ := Y19 hnd
 let ch := (List.range τ.sz).map fun l => (w.cell? (a0.add l)).getD undef
 have hcl : ch.length = τ.sz := by simp [ch]
 have hch : ∀ l u, ch[l]? = some u -> ∀ u', w.cell? (a0.add l) = some u' -> u' = u := by
  intro l u hu u' hu';have hj : l < τ.sz := by have := (X5.1 hu).1; omega
  have : ch[l]? = some u' := by simp [ch, hj, hu']
  rw [this] at hu;exact Xr hu
 have hcc : ∀ (j : Nat) (u : Value), ch[j]? = some u -> w.cell? (a0.add j) = some u := by
  intro j u hu;have hj := (X5.1 hu).1;obtain ⟨u', m, g1, _⟩ := hlf j _ (X1 (by omega));have g1 : w.cell? (a0.add j) = some u' := g1;rw [g1, hch j u hu u' g1]
 refine ⟨a0, ch, ev, hcl, hcc, ?_⟩
 let bd : Nat -> List Nat := fun l => match l with | 0 => [] | l + 1 => bds.getD l []
 have hset : ∀ l ∈ ls, l.m.settled = true := fun l hl => by
  obtain ⟨i, hi⟩ := Xz hl;obtain ⟨u, m, _, g, _⟩ := hlf i l hi;rw [g]; rfl
 have hsp := hr.split2 (n := N) (m := s) hsN hnor (mkCon τ.isAgg ls) .undef (mkV τ.isAgg ch) ch [] bd (fun _ => [])
  (fun l b hb => by
   cases l with
   | zero => simp [bd] at hb
   | succ l => exact ⟨0, by show b ∈ bs s 0; rw [hb0]; exact Ym hb⟩)
  (fun l b hb => by simp at hb)
  (fun l l' b h1 h2 => by
   cases l with
   | zero => simp [bd] at h1
   | succ l => cases l' with
    | zero => simp [bd] at h2
    | succ l' => rw [n2 l l' b h1 h2])
  (fun l l' b h1 h2 => by simp at h1) (fun l l' b h1 h2 => by simp at h2)
  (fun l => by
   cases l with
   | zero => exact X10
   | succ l => exact n1 l) (fun l => X10)
  (fun hkp => by
   have ebN : (upd (upd bs s (fun _ => [])) N bd) N = bd := Y0 _ _ _;constructor
   ·refine ⟨?_, by simp only [Y0]; rw [hlen', hcl], fun l hl => ?_, fun l lf u hl hu => ?_⟩
    ·simp only [Y0];have := Y1q (c := c) (w := w) (agg := τ.isAgg) (ch := ch) (fun h => by rw [hcl]; exact Y2j h);exact this.bare rfl
    ·show (upd (upd bs s (fun _ => [])) N bd) N (l + 1) = [];rw [ebN];show bds.getD l [] = [];rw [Xm, X2g (by omega)];rfl
    ·simp only [Y0] at hu;rw [Y2] at hl;obtain ⟨u', m, g1, g2, g3, g4⟩ := hlf l lf hl;obtain rfl := hch l u hu u' g1;obtain ⟨t', x', m'⟩ := lf;simp only at g2;subst g2;refine LeafRel.of_rep (by cases m <;> first | trivial | exact absurd rfl (g3 _)) ?_;show Rep _ _ _ _ _ _ ((upd (upd bs s (fun _ => [])) N bd) N (l + 1));rw [ebN];exact Rep.move hkp (fun _ _ => rfl) g4
   ·intro l;show (upd (upd bs s (fun _ => [])) N bd) s l = [];rw [Y1 _ _ hsN, Y0])
 have elen : (put env s .undef).length = env.length := Y6 _ _ _;have eE : upd (upd (ovl env noP) s .undef) N (mkCon τ.isAgg ls) = ovl (put env s .undef) (upd noP env.length (mkCon τ.isAgg ls)) := by
  rw [Yb (by rw [elen]; exact Xh _), Yr hsl]
 refine ⟨by rw [elen]; exact hlen, _, _, Rel.congr hsp eE (Yv (by omega) _).symm, fun p => ?_⟩;rw [<- eE, elen];simp only [upd];split
 ·have := Ye (k := if τ.isAgg then .agg else .val) hset;unfold mkCon;rw [this.1, this.2];exact ⟨by simp, by simp⟩
 ·split
  ·exact ⟨by simp [AV.refs], by simp [AV.ptrs]⟩
  ·exact hno p
theorem Y7i (hT : TabOk P T) (hr : RE c env a.tmps w) {t : TypeId} {s : Nat} {i : Operand} {x : List te.ty.D} {m : Int} {k : Nat} {env1 env' : Env} (hop : o.op = .indexAddr t (.tmp s) i) (hdst : o.dst = some d) (hd : d < env.length) (ht : elemAt T t = some te) (hi : int1 (rd none env i) = some (.i64, (k : Int)))
  (hl1 : env1.length = env.length) (hp1 : ∀ vs, RP c env a.tmps w noP vs -> RP c env1 a.tmps w noP vs) (hk : get env1 s = .part e te.ty x m) (hm : m <= k) (hkl : k < x.length)
  (h : setD (some d) (put env1 s (.part e te.ty x (k + 1))) (.eown (leaves te.ty (x.getD k te.ty.dflt) (fun _ => .at_ .dp) 0)) = env')
  (hn : ∀ a' w', RE c env' a'.tmps w' -> env'.length = env.length -> a'.defers = a.defers -> next a' w') : o.wp P a w next Q := by
 obtain ⟨hty, hund, _, hsz, hby, i0, hi0, hi1, _⟩ := TabOk.elem hT ht;obtain ⟨vs, hRP⟩ := id hr;obtain ⟨A, cp, ev, hp⟩ := (hp1 vs hRP).takeAt hk hsz hm hkl;have e1 : evT a.tmps (.tmp s) = .slice (some A) x.length cp := ev;have hsize : (Go.sizeOf te.id).run P w = .ok te.ty.sz w := by simp [Go.sizeOf, typeInfo, hi0, hi1]
 have hl : (put env1 s (.part e te.ty x (k + 1))).length = env.length := by rw [Y6, hl1]
 refine fin (K := some) (r := env') (w' := w) hdst (v := .pointer (some (A.add (k * te.ty.sz)))) (av := .eown (leaves te.ty (x.getD k te.ty.dflt) (fun _ => .at_ .dp) 0)) (by simp [execOp, hop, Y5, e1, hr.int1 hi, Instr.indexAt, asIntOf, run_underlying hund, hsize, hkl]) (by rw [hl]; exact hd) hl (by rw [hl, <- hl1]; exact hp) (by rw [hl, <- hl1, Y0]) (by rw [h]) (fun e a' w' he h1 h2 h3 => by cases he; exact hn a' w' h1 h2 h3)
theorem Y86 (hT : TabOk P T) (hr : RE c env a.tmps w) (hdst : o.dst = some d) (hd : d < env.length) {env' : Env} (h : takeStep T caps o d env = some (true, env'))
  (hn : ∀ a' w', RE c env' a'.tmps w' -> env'.length = env.length -> a'.defers = a.defers -> next a' w') : o.wp P a w next Q := by
 unfold takeStep at h;split at h
 ·rename_i t s i hop;split at h
  ·split at h
   ·rename_i te n ht hi;split at h
    ·rename_i e t' x hg;split at h
     ·rename_i hc;obtain ⟨rfl, rfl⟩ := hc;simp only [X0, Xy, X8, X16] at h;obtain ⟨⟨h0, h1⟩, h⟩ := h;obtain ⟨k, rfl⟩ : ∃ k : Nat, n = k := ⟨n.toNat, by omega⟩;have hsl := Ys hg;refine Y7i hT hr (env1 := put (killRoot s env) s (.part te.id te.ty x 0)) (m := 0) hop hdst hd ht hi (by rw [Y6, Y9]) (fun vs hp => hp.toPart hg) (by rw [Y10, X3 ⟨rfl, by rw [Y9]; exact hsl⟩]) (by omega) (by omega) ?_ hn;rw [Y30];simpa using h
     ·cases h
    ·rename_i e t' x m hg;split at h
     ·rename_i hc;obtain ⟨rfl, rfl⟩ := hc;simp only [X0, Xy, X8, X16] at h;obtain ⟨⟨h00, h0, h1⟩, h⟩ := h;obtain ⟨k, rfl⟩ : ∃ k : Nat, n = k := ⟨n.toNat, by omega⟩;exact Y7i hT hr (env1 := env) hop hdst hd ht hi rfl (fun vs hp => hp) hg h00 (by omega) (by simpa using h) hn
     ·cases h
    ·cases h
   ·cases h
  ·cases h
 ·rename_i t s hop;split at h
  ·rename_i ls hg;split at h
   ·rename_i τ ht;split at h
    ·rename_i hc;simp only [X0, Xy, true_and] at h;have hlen := Y13 hc.1;obtain ⟨vs, hRP⟩ := id hr;obtain ⟨x0, ch, ev, hcl, hcc, hp⟩ := hRP.loadTaken hg (τ := τ) hlen;have e1 : evT a.tmps (.tmp s) = .pointer (some x0) := ev;have hl : (put env s .undef).length = env.length := Y6 _ _ _;refine fin (K := some) (r := env') (w' := w) hdst (v := mkV τ.isAgg ch) (av := mkCon τ.isAgg ls) (by simp [execOp, hop, Y5, e1, Y3m hT ht hcl hcc]) (by rw [hl]; exact hd) hl (by rw [hl]; exact hp) (by rw [hl, Y0]) (by rw [h]) (fun e a' w' he h1 h2 h3 => by cases he; exact hn a' w' h1 h2 h3)
    ·cases h
   ·cases h
  ·cases h
 ·cases h
end
section
variable {P : Program} {o : Oper} {a : Act} {w : World} {Q : Exit -> Act -> World -> Prop} {c : Cx} {d : Nat} {T : Tab} {env : Env} {caps : FuncId -> List Ty}
theorem Y92 {b : Bool} {env' : Env} (h : selStep T caps o env = some (b, env')) : o.guard = none := by
 unfold selStep at h;split at h
 ·assumption
 ·cases h
theorem Y93 (hT : TabOk P T) (hr : RE c env a.tmps w) {env' : Env} (h : selStep T caps o env = some (true, env'))
  (hn : ∀ a' w', RE c env' a'.tmps w' -> env'.length = env.length -> a'.defers = a.defers -> next a' w') : o.wp P a w next Q := by
 unfold selStep at h;split at h
 ·rename_i d hg hdst;split at h
  ·rename_i hd;split at h
   ·rename_i env1 htb;simp only [X0, Xy, true_and] at h;subst h;exact Y91 hr hdst hd htb hn
   ·exact Y86 hT hr hdst hd h hn
  ·cases h
 ·cases h
end
theorem Yat (r : Nat) : Fewer (renewG r) := by
 intro r' j p l;unfold renewG;simp only;split
 ·exact .inl rfl
 ·exact .inr rfl
section
variable {c : Cx} {env : Env} {w : World}
theorem RP.renewR (hlen : env.length = tmps.size) (hrel : Rel c (SS env noP tmps vs w cs bs)) (hno : ∀ r, (∀ q ∈ (ovl env noP r).refs, q.1 < env.length) /\ (∀ q ∈ (ovl env noP r).ptrs, q < env.length)) {r : Nat} {e : BoxK} (hr : get env r = .con (.box e) ls) {B : Nat} (hB : bs r 0 = [B]) (htm : tmps.getD r undef = .pointer (some ⟨B, 0, none⟩)) (hbel : Below c.base w w') {ch' : List Value} {br bn : Nat -> List Nat} {ns : List Leaf} {k2 : Kind} {ls2 : List Leaf} {rv : Value} {cells2 : List Value}
  (hheap : ∀ b, b < w.heap.size -> (∀ l, b ∉ bs r l) -> w'.heap[b]? = w.heap[b]?) (hBh : w'.heap[B]? = some (.cells ch'.toArray e.id (0, 0))) (hfix : ∀ l, nthB e.fix l = true -> ch'[l]? = (cs r)[l]?)
  (hbr0 : br 0 = [B]) (hnl : ns.length = ch'.length) (hbrn : ∀ l, ns.length <= l -> br (l + 1) = []) (hn1 : ∀ l b, b ∈ br l -> b < w'.heap.size /\ (w.heap.size <= b \/ ∃ l', b ∈ bs r l')) (hn2 : ∀ l b, b ∈ bn l -> b < w'.heap.size /\ (w.heap.size <= b \/ ∃ l', b ∈ bs r l'))
  (hd1 : ∀ l l' b, b ∈ br l -> b ∈ br l' -> l = l') (hd2 : ∀ l l' b, b ∈ bn l -> b ∈ bn l' -> l = l') (hd3 : ∀ l l' b, b ∈ br l -> b ∉ bn l') (hnd1 : ∀ l, (br l).Nodup) (hnd2 : ∀ l, (bn l).Nodup)
  (hset1 : ∀ l ∈ ns, l.refs = []) (hset2 : ∀ l ∈ ls2, l.m.settled = true)
  (hleaf : let s' : St := ⟨upd (upd (chgE (renewG r) (ovl env noP)) r (.con (.box e) ns)) env.length (.con k2 ls2), upd (ovlT tmps vs) env.length rv, w', upd (upd cs r ch') env.length cells2, upd (upd bs r br) env.length bn⟩
   Keeps c (SS env noP tmps vs w cs bs) s' -> (∀ l lf u, ns[l]? = some lf -> ch'[l]? = some u -> LeafRel c s' r l u lf) /\ AVRel c s' env.length (.con k2 ls2) rv) :
  RP c (renewBox r (.box e) ns env) tmps w' (upd noP env.length (.con k2 ls2)) (upd vs env.length rv) := by
 have hrl : r < env.length := Ys hr;have hrN : r ≠ env.length := X1e hrl
 let s' : St := ⟨upd (upd (chgE (renewG r) (ovl env noP)) r (.con (.box e) ns)) env.length (.con k2 ls2), upd (ovlT tmps vs) env.length rv, w', upd (upd cs r ch') env.length cells2, upd (upd bs r br) env.length bn⟩
 have hbN : ∀ l, bs env.length l = [] := by
  have := hrel.av env.length;rw [show (SS env noP tmps vs w cs bs).env env.length = .undef by show ovl env noP _ = _; rw [Yn (Xh _)]; rfl] at this;exact this
 have eR : s'.bs r = br := by show upd (upd bs r br) env.length bn r = _; rw [Y1 _ _ hrN, Y0]
 have eN : s'.bs env.length = bn := Y0 _ _ _;have eO : ∀ p, p ≠ r -> p ≠ env.length -> s'.env p = (ovl env noP p).chg (renewG r) /\ s'.tm p = ovlT tmps vs p /\ s'.cs p = cs p /\ s'.bs p = bs p := fun p h1 h2 => by
  refine ⟨?_, Y1 _ _ h2, ?_, ?_⟩
  ·show upd (upd _ r _) env.length _ p = _;rw [Y1 _ _ h2, Y1 _ _ h1]; rfl
  ·show upd (upd cs r ch') env.length cells2 p = _;rw [Y1 _ _ h2, Y1 _ _ h1]
  ·show upd (upd bs r br) env.length bn p = _;rw [Y1 _ _ h2, Y1 _ _ h1]
 have hstep : Rel c s' := by
  refine Rel.step (s := SS env noP tmps vs w cs bs) (s' := s') (renewG r) hrel (fun p => p = r \/ p = env.length) (fun a j => ∃ lf u, OwnPlace (SS env noP tmps vs w cs bs) a j lf u) (fun a => ∃ off v, PtrRel (SS env noP tmps vs w cs bs) a off v) (fun p hp => ?_) hbel (fun b hb hne => ?_) (fun p l b hp hb => ?_) (fun p l p' l' b hp hp' hb hb' => ?_) (fun p l hp => ?_) (fun p hp => ?_) (fun hk => ⟨?_, ?_, ?_⟩) (fun hk p hp => ?_)
  ·grind
  ·grind
  ·rcases hp with rfl | rfl
   ·rw [eR] at hb;obtain ⟨h1, h2⟩ := hn1 l b hb;exact ⟨h1, h2.imp id (fun ⟨l', h⟩ => ⟨p, l', .inl rfl, h⟩)⟩
   ·rw [eN] at hb;obtain ⟨h1, h2⟩ := hn2 l b hb;exact ⟨h1, h2.imp id (fun ⟨l', h⟩ => ⟨r, l', .inl rfl, h⟩)⟩
  ·rcases hp with rfl | rfl
   ·rcases hp' with rfl | rfl
    ·rw [eR] at hb hb'; exact ⟨rfl, hd1 _ _ _ hb hb'⟩
    ·rw [eR] at hb; rw [eN] at hb'; exact absurd hb' (hd3 _ _ _ hb)
   ·rcases hp' with rfl | rfl
    ·rw [eN] at hb; rw [eR] at hb'; exact absurd hb (hd3 _ _ _ hb')
    ·rw [eN] at hb hb'; exact ⟨rfl, hd2 _ _ _ hb hb'⟩
  ·rcases hp with rfl | rfl
   ·rw [eR]; exact hnd1 l
   ·rw [eN]; exact hnd2 l
  ·exact (hrel.av p).refs_own
  ·intro u t x r1 j p hL hbor;unfold renewG;simp only;by_cases h1 : r1 = r
   ·rw [X3 h1];exact ⟨rfl, Rep.one hbor.1 u (by simp)⟩
   ·rw [X6 h1];refine ⟨rfl, ?_⟩;obtain ⟨lf0, u0, h2, h3, h4⟩ := hL;have hlt : r1 < env.length := by
     apply Nat.lt_of_not_le;intro hge;have : (SS env noP tmps vs w cs bs).env r1 = .undef := by show ovl env noP r1 = _; rw [Yn hge]; rfl
     rw [this] at h2; simp [AV.leaf?] at h2
    obtain ⟨o1, o2, o3, o4⟩ := eO r1 h1 (X1e hlt);refine BorRel.keep hk ⟨fun lf u hown => ?_, by rw [o4], fun b hb => ?_⟩ hbor
    ·obtain ⟨p1, p2, p3⟩ := hown;refine ⟨?_, p2, by grind⟩;rw [o1];have p1 : (ovl env noP r1).leaf? j = some lf := p1;cases hv : ovl env noP r1 with
     | con k0 ls0 =>
      rw [hv] at p1;simp only [AV.leaf?] at p1;simp only [AV.chg, AV.leaf?];rw [Yg, p1];obtain ⟨t0, x0, m0⟩ := lf;cases m0 with
      | at_ lv => rfl
      | bor _ _ _ => simp [Mode.own] at p2
      | dead => simp [Mode.own] at p2
     | _ => rw [hv] at p1; simp [AV.leaf?] at p1
    ·exact hheap b (hrel.own _ _ _ hb).2 (fun l hl => h1 (hrel.disj _ _ _ _ _ hb hl).1)
  ·intro a r1 j p i o hL hwr;unfold renewG;simp only;by_cases h1 : r1 = r
   ·grind
   ·rw [show (r1 == r) = false from by simpa using h1];simp;obtain ⟨lf0, u0, h2, h3, h4⟩ := hL;have hlt : r1 < env.length := by
     apply Nat.lt_of_not_le;intro hge;have : (SS env noP tmps vs w cs bs).env r1 = .undef := by show ovl env noP r1 = _; rw [Yn hge]; rfl
     rw [this] at h2; simp [AV.leaf?] at h2
    obtain ⟨o1, o2, o3, o4⟩ := eO r1 h1 (X1e hlt);refine WrRel0.keep hk ⟨fun lf u hown => ?_, by rw [o4], fun b hb => ?_⟩ hwr
    ·obtain ⟨p1, p2, p3⟩ := hown;refine ⟨?_, p2, by rw [o3]; exact p3⟩;rw [o1];have p1 : (ovl env noP r1).leaf? j = some lf := p1;cases hv : ovl env noP r1 with
     | con k0 ls0 =>
      rw [hv] at p1;simp only [AV.leaf?] at p1;simp only [AV.chg, AV.leaf?];rw [Yg, p1];obtain ⟨t0, x0, m0⟩ := lf;cases m0 with
      | at_ lv => rfl
      | bor _ _ _ => simp [Mode.own] at p2
      | dead => simp [Mode.own] at p2
     | _ => rw [hv] at p1; simp [AV.leaf?] at p1
    ·exact hheap b (hrel.own _ _ _ hb).2 (fun l hl => h1 (hrel.disj _ _ _ _ _ hb hl).1)
  ·intro r1 hL _;obtain ⟨off, v, e0, ls0, B0, q1, q2, q3⟩ := hL;have q1 : ovl env noP r1 = .con (.box e0) ls0 := q1;have hlt : r1 < env.length := by
    apply Nat.lt_of_not_le;intro hge;rw [Yn hge] at q1;exact AV.noConfusion q1
   refine ⟨Y1 _ _ (X1e hlt), fun e1 ls1 h1 => ?_⟩;by_cases h2 : r1 = r
   ·subst h2;exact ⟨e, ns, by show upd (upd _ r1 _) env.length _ r1 = _; rw [Y1 _ _ hrN, Y0]⟩
   ·have h1 : ovl env noP r1 = .con (.box e1) ls1 := h1;exact ⟨e1, chgs (renewG r) ls1, by rw [(eO r1 h2 (X1e hlt)).1, h1]; rfl⟩
  ·obtain ⟨hl1, hl2⟩ := hleaf hk;rcases hp with rfl | rfl
   ·have ee : s'.env p = .con (.box e) ns := by show upd (upd _ p _) env.length _ p = _; rw [Y1 _ _ hrN, Y0]
    have et : s'.tm p = .pointer (some ⟨B, 0, none⟩) := by
     show upd (ovlT tmps vs) env.length rv p = _;rw [Y1 _ _ hrN];exact (X3 (by omega)).trans htm
    have ec : s'.cs p = ch' := by show upd (upd cs p ch') env.length cells2 p = _; rw [Y1 _ _ hrN, Y0]
    have hav := hrel.av p;rw [show (SS env noP tmps vs w cs bs).env p = .con (.box e) ls by show ovl env noP p = _; rw [Y8 hrl]; exact hr] at hav;obtain ⟨⟨B1, g1, g2, g3, g4, g5⟩, _⟩ := hav;rw [ee, et];refine ⟨⟨B, rfl, by rw [ec]; exact hBh, by rw [eR]; exact hbr0, fun hp => ?_, fun l hl => ?_⟩, by rw [ec]; exact hnl, fun l hl => by rw [eR]; exact hbrn l hl, fun l lf u hl hu => hl1 l lf u (by rw [<- Y2]; exact hl) (by grind)⟩
    ·grind
    ·grind
   ·have ee : s'.env env.length = .con k2 ls2 := Y0 _ _ _;have et : s'.tm env.length = rv := Y0 _ _ _;rw [ee, et];exact hl2
 have hbl : (renewBox r (.box e) ns env).length = env.length := by unfold renewBox; rw [Y6, Y7]
 have e1 : upd (upd (chgE (renewG r) (ovl env noP)) r (.con (.box e) ns)) env.length (.con k2 ls2) = ovl (renewBox r (.box e) ns env) (upd noP env.length (.con k2 ls2)) := by
  rw [Yb (by grind)];congr 1;funext p;by_cases hp : p < env.length
  ·rw [Y8 (by rw [hbl]; exact hp)];unfold renewBox;rw [Y2i (by rw [Y7]; exact hrl), Y80];by_cases h1 : p = r
   ·rw [h1, Y0, Y0]
   ·rw [Y1 _ _ h1, Y1 _ _ h1];show (ovl env noP p).chg _ = (get env p).chg _;rw [Y8 hp]
  ·rw [Yn (by rw [hbl]; omega), Y1 _ _ (by omega)];show (ovl env noP p).chg _ = _;rw [Yn (by omega)]; rfl
 refine ⟨by rw [hbl]; exact hlen, _, _, Rel.congr hstep e1 (Yv (by omega) rv).symm, fun p => ?_⟩;rw [hbl, <- e1];by_cases h2 : p = env.length
 ·rw [h2, Y0, (Ye hset2).1, (Ye hset2).2];exact ⟨by simp, by simp⟩
 ·rw [Y1 _ _ h2];by_cases h1 : p = r
  ·rw [h1, Y0];refine ⟨fun q hq => ?_, by simp [AV.ptrs]⟩;simp only [AV.refs, Xj] at hq;obtain ⟨l, hl, hq⟩ := hq;rw [hset1 l hl] at hq; simp at hq
  ·rw [Y1 _ _ h1];have := Yl (Yat r) (ovl env noP p);exact ⟨fun q hq => (hno p).1 q (this.1 q hq), fun q hq => (hno p).2 q (this.2 q hq)⟩
end
theorem Y3p {b : BoxSig} : ∀ {ls : List Leaf} {n l : Nat} {lf : Leaf}, boxFits b n ls = true -> ls[l]? = some lf -> lf.m.settled = true /\ (∀ e τ, lf.t = .slice e τ -> (slotAt b.lv (n + l)).isFx = true \/ lf.m = b.md (n + l))
 | [], n, l, lf, _, hl => by simp at hl
 | a :: ls, n, 0, lf, h, hl => by
  obtain rfl : a = lf := by simpa using hl
  simp [boxFits] at h;refine ⟨h.1.1, fun e τ ht => ?_⟩;have := h.1.2;rw [ht] at this;simpa using this
 | a :: ls, n, l + 1, lf, h, hl => by
  simp [boxFits] at h;have := Y3p (n := n + 1) (l := l) h.2 (by simpa using hl)
  rwa [show n + 1 + l = n + (l + 1) by omega] at this
theorem Y7j {b : BoxSig} : ∀ {ls : List Leaf} {n l : Nat} {lf : Leaf}, boxCalm b n ls = true -> ls[l]? = some lf -> ∀ e τ, lf.t = .slice e τ -> slotAt b.lv (n + l) = .fx \/ slotAt b.lv (n + l) = .dp
 | [], n, l, lf, _, hl => by simp at hl
 | a :: ls, n, 0, lf, h, hl => by
  obtain rfl : a = lf := by simpa using hl
  simp [boxCalm] at h;intro e τ ht;have := h.1;rw [ht] at this;simp;cases hs : slotAt b.lv n <;> rw [hs] at this <;> simp_all
 | a :: ls, n, l + 1, lf, h, hl => by
  simp [boxCalm] at h;have := Y7j (n := n + 1) (l := l) h.2 (by simpa using hl)
  rwa [show n + 1 + l = n + (l + 1) by omega] at this
theorem Y7k {b : BoxSig} : ∀ {ls : List Leaf} {n l : Nat} {lf : Leaf}, boxFxRo b n ls = true -> ls[l]? = some lf -> (slotAt b.lv (n + l)).isFx = true -> lf.m.own = false
 | [], n, l, lf, _, hl => by simp at hl
 | a :: ls, n, 0, lf, h, hl => by
  obtain rfl : a = lf := by simpa using hl
  simp [boxFxRo] at h;intro hf;rcases h.1 with h1 | h1
  ·grind
  ·exact h1
 | a :: ls, n, l + 1, lf, h, hl => by
  simp [boxFxRo] at h;have := Y7k (n := n + 1) (l := l) h.2 (by simpa using hl)
  rwa [show n + 1 + l = n + (l + 1) by omega] at this
theorem Y5g : ∀ {fs : List Bool} {ss : List Slot} {l : Nat}, subFix fs ss = true -> nthB fs l = true -> (slotAt ss l).isFx = true
 | [], ss, l, _, h => by simp [nthB] at h
 | f :: fs, [], 0, h, h2 => by simp [subFix] at h; simp only [nthB] at h2; rw [h2] at h; simp at h
 | f :: fs, [], l + 1, h, h2 => by simp [subFix] at h; exact Y5g (ss := []) (l := l) h.2 h2
 | f :: fs, s :: ss, 0, h, h2 => by
  simp [subFix] at h;simp [nthB] at h2;rcases h.1 with h1 | h1
  ·grind
  ·exact h1
 | f :: fs, s :: ss, l + 1, h, h2 => by simp [subFix] at h; exact Y5g (fs := fs) (ss := ss) (l := l) h.2 h2
theorem Y41 {b : BoxSig} : ∀ {n : Nat} {ls ms : List Leaf}, ls.length = ms.length -> (mixLs b n ls ms).length = ls.length
 | n, [], [], _ => rfl
 | n, [], _ :: _, h => by simp at h
 | n, _ :: _, [], h => by simp at h
 | n, l :: ls, m :: ms, h => by simp [mixLs]; rw [Y41 (by simpa using h)]
theorem Y6u {b : BoxSig} : ∀ {n l : Nat} {ls ms : List Leaf} {lf : Leaf}, (mixLs b n ls ms)[l]? = some lf -> ((slotAt b.lv (n + l)).isFx = true /\ ls[l]? = some lf) \/ ((slotAt b.lv (n + l)).isFx = false /\ ms[l]? = some lf)
 | n, l, [], ms, lf, h => by simp [mixLs] at h
 | n, l, _ :: _, [], lf, h => by simp [mixLs] at h
 | n, 0, a :: ls, m :: ms, lf, h => by
  simp only [mixLs, Xg, X0] at h;cases hs : (slotAt b.lv n).isFx with
  | true => grind
  | false => grind
 | n, l + 1, a :: ls, m :: ms, lf, h => by
  simp only [mixLs, X1t] at h;have := Y6u (n := n + 1) (l := l) h;rw [show n + 1 + l = n + (l + 1) by omega] at this;simpa using this
def Leaf.dat (l : Leaf) : Σ t : Ty, t.D := ⟨l.t, l.x⟩
theorem Y7l {l : Leaf} {x : t.D} (h : l.as t = some x) : l.dat = ⟨t, x⟩ := by
 rw [Leaf.as_eq h]; rfl
theorem Y62 (md : Nat -> Mode) : ∀ (t : Ty) {ls : List Leaf} {x : t.D} {rest : List Leaf} (n : Nat), asm t ls = some (x, rest) -> ∃ pre, ls = pre ++ rest /\ pre.map Leaf.dat = (leaves t x md n).map Leaf.dat
 | .unit, ls, x, rest, n, h => by
  simp [asm] at h;obtain ⟨_, rfl⟩ := h;exact ⟨[], rfl, rfl⟩
 | .pair a b, ls, x, rest, n, h => by
  simp [asm] at h;cases ha : asm a ls with
  | none => rw [ha] at h; simp at h
  | some q =>
   obtain ⟨xa, ra⟩ := q;rw [ha] at h;simp only at h;cases hb : asm b ra with
   | none => rw [hb] at h; simp at h
   | some q =>
    obtain ⟨xb, rb⟩ := q;rw [hb] at h;simp at h;obtain ⟨rfl, rfl⟩ := h;obtain ⟨p1, e1, k1⟩ := Y62 md a n ha;obtain ⟨p2, e2, k2⟩ := Y62 md b (n + a.sz) hb;exact ⟨p1 ++ p2, by rw [e1, e2, X7], by simp [leaves, k1, k2]⟩
 | .int kk, ls, x, rest, n, h => by
  cases ls with
  | nil => simp [asm] at h
  | cons l ls =>
   simp [asm] at h;cases hx : l.as (.int kk) with
   | none => rw [hx] at h; simp at h
   | some y =>
    rw [hx] at h;simp at h;obtain ⟨rfl, rfl⟩ := h;exact ⟨[l], rfl, by simp only [X1z, X3a, Y7l hx]; rfl⟩
 | .bool, ls, x, rest, n, h => by
  cases ls with
  | nil => simp [asm] at h
  | cons l ls =>
   simp [asm] at h;cases hx : l.as .bool with
   | none => rw [hx] at h; simp at h
   | some y =>
    rw [hx] at h;simp at h;obtain ⟨rfl, rfl⟩ := h;exact ⟨[l], rfl, by simp only [X1z, X3a, Y7l hx]; rfl⟩
 | .str, ls, x, rest, n, h => by
  cases ls with
  | nil => simp [asm] at h
  | cons l ls =>
   simp [asm] at h;cases hx : l.as .str with
   | none => rw [hx] at h; simp at h
   | some y =>
    rw [hx] at h;simp at h;obtain ⟨rfl, rfl⟩ := h;exact ⟨[l], rfl, by simp only [X1z, X3a, Y7l hx]; rfl⟩
 | .slice e τ, ls, x, rest, n, h => by
  cases ls with
  | nil => simp [asm] at h
  | cons l ls =>
   simp [asm] at h;cases hx : l.as (.slice e τ) with
   | none => rw [hx] at h; simp at h
   | some y =>
    rw [hx] at h;simp at h;obtain ⟨rfl, rfl⟩ := h;exact ⟨[l], rfl, by simp only [X1z, X3a, Y7l hx]; rfl⟩
theorem Y22 (md : Nat -> Mode) : ∀ (t : Ty) (x : t.D) (n l : Nat) (lf : Leaf), (leaves t x md n)[l]? = some lf -> (lf.t.flatB = true /\ lf.m = .at_ .ro) \/ ((∃ e τ, lf.t = .slice e τ) /\ lf.m = md (n + l))
 | .unit, x, n, l, lf, h => by simp [leaves] at h
 | .int _, x, n, 0, lf, h => by simp only [leaves, Xg, X0] at h; subst h; exact .inl ⟨rfl, rfl⟩
 | .bool, x, n, 0, lf, h => by simp only [leaves, Xg, X0] at h; subst h; exact .inl ⟨rfl, rfl⟩
 | .str, x, n, 0, lf, h => by simp only [leaves, Xg, X0] at h; subst h; exact .inl ⟨rfl, rfl⟩
 | .slice e τ, x, n, 0, lf, h => by simp only [leaves, Xg, X0] at h; subst h; exact .inr ⟨⟨e, τ, rfl⟩, rfl⟩
 | .int _, x, n, l + 1, lf, h => by simp [leaves] at h
 | .bool, x, n, l + 1, lf, h => by simp [leaves] at h
 | .str, x, n, l + 1, lf, h => by simp [leaves] at h
 | .slice _ _, x, n, l + 1, lf, h => by simp [leaves] at h
 | .pair a b, x, n, l, lf, h => by
  simp [leaves] at h;have ha : (leaves a x.1 md n).length = a.sz := by
   have := congrArg List.length (Yz a x.1 md n);rw [X2p] at this;rw [this, Y1t]
  by_cases hl : l < a.sz
  ·rw [Xo (by omega)] at h;exact Y22 md a x.1 n l lf h
  ·rw [Xe (by omega), ha] at h;have := Y22 md b x.2 (n + a.sz) (l - a.sz) lf h
   rwa [show n + a.sz + (l - a.sz) = n + l by omega] at this
end Go.FP
