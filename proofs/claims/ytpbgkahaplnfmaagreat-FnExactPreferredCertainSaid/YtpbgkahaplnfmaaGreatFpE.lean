/- How Go values lie in memory, and an evaluator of code with its soundness (part 5 of 6). Conditions: those that stand in each theorem; nothing is assumed of any program. -/
import Derived.Test.YtpbgkahaplnfmaaGreatFpD
import Derived.KernelRfl
import Derived.ProofKit
import Derived.ChangeOld
import Derived.WideShapes
import Derived.ChangeMaps5

set_option linter.unusedVariables false
set_option linter.unusedSimpArgs false
set_option linter.unnecessarySimpa false

namespace Go.FP
open Go.RowKit
theorem Y81 {b : BoxSig} : ∀ {ls : List Leaf} {n l : Nat} {lf : Leaf}, boxEnd b n ls = true -> ls[l]? = some lf -> lf.m.settled = true /\ (∀ e τ, lf.t = .slice e τ -> (slotAt b.lv (n + l) = .dp -> lf.m = .at_ .dp) /\ (slotAt b.lv (n + l) = .sh -> lf.m = .at_ .sh))
 | [], n, l, lf, _, hl => by simp at hl
 | a :: ls, n, 0, lf, h, hl => by
  obtain rfl : a = lf := by simpa using hl
  simp only [boxEnd, Bool.and_eq_true] at h
  refine ⟨h.1.1, fun e τ ht => ?_⟩
  have := h.1.2
  rw [ht] at this
  rw [Nat.add_zero]
  cases hs : slotAt b.lv n <;> rw [hs] at this <;> simp_all
 | a :: ls, n, l + 1, lf, h, hl => by
  simp only [boxEnd, Bool.and_eq_true] at h
  have := Y81 (n := n + 1) (l := l) h.2 (by simpa using hl)
  rwa [show n + 1 + l = n + (l + 1) by omega] at this
section
variable {P : Program} {T : Tab}
theorem Yd0 {R : Type} {KR : List (Σ t : Ty, t.D) -> Option R} {rr : R} {sig : FuncId -> Option Sig} {caps : FuncId -> List Ty} {orc : Orc} (hT : TabOk P T) (hO : OrcOk P sig orc) (hm : P.follows .mixedOrders = true) {dr : Array Oper -> Env -> (Env -> Option R) -> Option R} (hdraw : DrawHyp (R := R) T sig caps orc dr) {fuel : Nat} {ann : Nat -> Option (List Nat)} {f : FuncId} {fn : Func} {code : Code} (hf : P.funcs[f]? = some fn) (hb : fn.body = some code) {sg : Sig} {b : BoxSig} {t : Ty} {x y : t.D} {args : List RV} {ys : List (Σ t : Ty, t.D)}
  (ht : nthL args b.k = some (.ptr t x)) (hU : ∀ xs, KR xs = some rr -> xs = ⟨t, y⟩ :: ys) (h : evFnB T sig caps orc dr fuel ann sg b fn code args KR = some rr) : FnSpecBox P f sg.results b t x args y ys := by
 intro S w vals B ch bds base hvk hBh hL hnd hbb hbase hargs hS
 unfold evFnB at h
 split at h
 ·rename_i as t' x' hp ht'
  rw [ht] at ht'
  simp only [Option.some.injEq, RV.ptr.injEq] at ht'
  obtain ⟨rfl, _⟩ := ht'
  split at h
  ·rename_i hc
   obtain ⟨⟨hle, hndr⟩, hlv⟩ := hc
   have hen := Ydr hvk hBh hL hnd hbb hbase hargs hS hp ht hlv (n := fn.ntmps) hle
   refine calls_of_wp hf hb ?_
   refine Y55 hT hO hm hdraw (c := cxB S base w B ch bds) (N := fn.ntmps) (D := []) (K := endB T sg b fn t KR) code hen (by simp; omega) rfl (fun e env' a' w' hK hr' hl' hd' => ?_) h
   have fin : (match resN T env' sg.results fn.results.toList with | some xs => (match boxVal env' b t with | some y => KR (⟨t, y⟩ :: xs) | none => none) | none => none) = some rr -> (a'.defers = [] /\ ∃ v, (results fn a'.tmps).run P w' = .ok v w' /\ (fun (e : Ending) (w' : World) => ∃ ch' bds' chs bs, e = .returned (resVal sg.results chs) /\ Below base w w' /\ (∀ k, k < w.heap.size -> k ∉ B :: bds.flatten -> w'.heap[k]? = w.heap[k]?) /\ w'.heap[B]? = some (.cells ch'.toArray b.id (0, 0)) /\ ch'.length = ch.length /\ (∀ l, (slotAt b.lv l).isFx = true -> ch'[l]? = ch[l]?) /\
     LvsRel (fun k => (S k \/ k ∈ bds.flatten \/ w.heap.size <= k) /\ k ∉ B :: (bds'.flatten ++ bs)) w' b.free (leaves t y b.md 0) ch' bds' /\ (∀ l, (slotAt b.lv l).isFx = true -> bds'.getD l [] = []) /\ (B :: (bds'.flatten ++ bs)).Nodup /\ (∀ k ∈ bds'.flatten ++ bs, k ∈ bds.flatten \/ w.heap.size <= k) /\
     ResRel (fun k => S k \/ k ∈ B :: bds.flatten) w.heap.size w' (B :: (bds'.flatten ++ bs)) sg.results ys chs bs) (.returned v) w') := by
    intro hK
    cases hx : resN T env' sg.results fn.results.toList with
    | none => rw [hx] at hK; simp at hK
    | some xs =>
     cases hv : boxVal env' b t with
     | none => rw [hx, hv] at hK; simp at hK
     | some y' =>
      rw [hx, hv] at hK
      simp only at hK
      have := hU _ hK
      simp only [List.cons.injEq, Sigma.mk.injEq, heq_eq_eq, true_and] at this
      obtain ⟨rfl, rfl⟩ := this
      obtain ⟨vs, hlen, cs, bs, hrel, hno⟩ := hr'
      -- the variable
      unfold boxVal at hv
      split at hv
      ·rename_i e1 ls hg
       split at hv
       ·rename_i hc1
        obtain ⟨⟨c1, c2, c3⟩, hend⟩ := hc1
        split at hv
        ·rename_i y1 has
         simp only [Option.some.injEq] at hv
         subst hv
         have hkl : b.k < env'.length := Yv hg
         have hav := hrel.av b.k
         rw [show (SS env' noP a'.tmps vs w' cs bs).env b.k = .con (.box e1) ls by show ovl env' noP b.k = _; rw [Y8 hkl]; exact hg] at hav
         obtain ⟨⟨B1, g1, g2, g3, g4, g5⟩, h2, h3, h4⟩ := hav
         have hBB : B1 = B := by
          have := g4 c2
          rw [g1] at this
          simpa [cxB] using this
         subst hBB
         have g2 : w'.heap[B1]? = some (.cells (cs b.k).toArray b.id (0, 0)) := c1 ▸ g2
         have g3 : bs b.k 0 = [B1] := g3
         have h2 : ls.length = (cs b.k).length := h2
         have hBin : B1 ∈ bs b.k 0 := by rw [g3]; simp
         obtain ⟨pre, e2, e3⟩ := Y5o b.md t 0 has
         rw [List.append_nil] at e2
         subst e2
         have hly : (leaves t y1 b.md 0).length = ls.length := by have := congrArg List.length e3; simpa using this.symm
         have hts : ∀ z : t.D, (leaves t z b.md 0).length = t.sz := fun z => by
          have := congrArg List.length (Yu t z b.md 0)
          rwa [List.length_map, Y1o] at this
         have hcl : (cs b.k).length = ch.length := by rw [<- h2, <- hly, hts, <- hL.1, hts]
         let F : Nat -> List Nat := fun l => match slotAt b.lv l with
          | .dp => bs b.k (l + 1)
          | .sh => bs b.k (l + 1)
          | _ => []
         have hF : ∀ l k, k ∈ F l -> k ∈ bs b.k (l + 1) := by
          intro l k hk
          simp only [F] at hk
          split at hk <;> first | exact hk | simp at hk
         let bds' : List (List Nat) := (List.range (cs b.k).length).map F
         let bsx : List Nat := resB cs bs sg.results fn.results.toList
         have hndr1 := List.nodup_cons.1 hndr
         have hbx : ∀ k ∈ bsx, ∃ q l, q ≠ b.k /\ k ∈ bs q (l + 1) := fun k hk => by
          obtain ⟨i, p, v, l, _, h5, _, h6⟩ := Y2v hk
          exact ⟨_, l, fun e => hndr1.1 (by rw [<- e]; exact List.mem_map.2 ⟨v, List.mem_of_getElem? h5, rfl⟩), h6⟩
         have hbd : ∀ k ∈ bds'.flatten, ∃ l, k ∈ bs b.k (l + 1) := fun k hk => by
          obtain ⟨l, _, h5⟩ := Y2s.1 hk
          exact ⟨l, hF l k h5⟩
         have hLin : ∀ k ∈ B1 :: (bds'.flatten ++ bsx), ∃ q l, k ∈ bs q l := fun k hk => by
          rcases List.mem_cons.1 hk with rfl | hk
          ·exact ⟨_, _, hBin⟩
          ·rcases List.mem_append.1 hk with hk | hk
           ·obtain ⟨l, h5⟩ := hbd k hk; exact ⟨_, _, h5⟩
           ·obtain ⟨q, l, _, h5⟩ := hbx k hk; exact ⟨_, _, h5⟩
         have hmine : ∀ k, (cxB S base w B1 ch bds).mine k -> k ∈ B1 :: bds.flatten \/ w.heap.size <= k := fun k hk => by
          by_cases h5 : k < w.heap.size
          ·refine .inl (Decidable.byContradiction fun h6 => hk.2 ⟨h5, h6⟩)
          ·exact .inr (Nat.le_of_not_lt h5)
         have hRo : ∀ k, RoS (cxB S base w B1 ch bds) (SS env' noP a'.tmps vs w' cs bs) k -> (S k \/ k ∈ bds.flatten \/ w.heap.size <= k) /\ k ∉ B1 :: (bds'.flatten ++ bsx) := fun k hk => by
          refine ⟨?_, fun hm => by obtain ⟨q, l, h5⟩ := hLin k hm; exact hk.1 q l h5⟩
          rcases hk.2 with h5 | h5
          ·exact .inl h5
          ·rcases hmine k h5 with h6 | h6
           ·rcases List.mem_cons.1 h6 with rfl | h6
            ·exact absurd hBin (hk.1 _ _)
            ·exact .inr (.inl h6)
           ·exact .inr (.inr h6)
         obtain ⟨chs, m1, m2⟩ := Y6d hT (S := fun k => S k \/ k ∈ B1 :: bds.flatten) (base0 := w.heap.size) (B := B1 :: (bds'.flatten ++ bsx)) hlen hrel (fun k hk => by
          rcases hk with hk | hk
          ·exact .inl (.inl hk)
          ·rcases hmine k hk with h6 | h6
           ·exact .inl (.inr h6)
           ·exact .inr h6) hLin hx (fun i p v q1 q2 l k hk hnk hkB => by
          have hvne : resTmp v ≠ b.k := fun e => hndr1.1 (by rw [<- e]; exact List.mem_map.2 ⟨v, List.mem_of_getElem? q2, rfl⟩)
          rcases List.mem_cons.1 hkB with rfl | hkB
          ·exact hvne (hrel.disj _ _ _ _ _ hk hBin).1
          ·rcases List.mem_append.1 hkB with hkB | hkB
           ·obtain ⟨l', h5⟩ := hbd k hkB
            exact hvne (hrel.disj _ _ _ _ _ hk h5).1
           ·obtain ⟨i', p', v', l', k1, k2, k3, k4⟩ := Y2v hkB
            have hdd := (hrel.disj _ _ _ _ _ hk k4).1
            have : i = i' := Y56 hndr1.2 (x := resTmp v) (by rw [List.getElem?_map, q2]; rfl) (by rw [List.getElem?_map, k2, hdd]; rfl)
            subst this
            rw [q1] at k1
            simp only [Option.some.injEq] at k1
            subst k1
            rw [q2] at k2
            obtain rfl := Option.some.inj k2
            exact hnk k3)
         refine ⟨hd', _, Y60 m2, cs b.k, bds', chs, bsx, rfl, hrel.below, fun k hk hnk => (hrel.froz k ⟨hk, hnk⟩).2.2, g2, hcl, fun l hl => ?_, ⟨by rw [hly]; exact h2, by simp [bds'], fun l lf u hfree hl hu => ?_⟩, fun l hl => ?_, ?_, fun k hk => ?_, m1⟩
         ·have h5 : (cs b.k)[l]? = some (ch.getD l default) := g5 l (by rw [c3]; exact Yc5 _ _ hl)
          have hlt : l < ch.length := by rw [<- hcl]; exact (List.getElem?_eq_some_iff.1 h5).1
          rw [h5, List.getD_eq_getElem?_getD, List.getElem?_eq_getElem hlt]; rfl
         ·have hlt : l < ls.length := by rw [<- hly]; exact (List.getElem?_eq_some_iff.1 hl).1
          have hd : ls[l].dat = lf.dat := by
           have h5 := congrArg (fun z => z[l]?) e3
           simp only [List.getElem?_map, hl, List.getElem?_eq_getElem hlt, Option.map_some, Option.some.injEq] at h5
           exact h5
          have h5 := h4 l ls[l] u (by rw [Y1]; exact List.getElem?_eq_getElem hlt) hu
          obtain ⟨hset, hsl⟩ := Y81 hend (List.getElem?_eq_getElem hlt)
          rw [Nat.zero_add] at hsl
          rw [Y2r, if_pos (show l < (cs b.k).length by rw [<- h2]; exact hlt)]
          have hmd := Y1w b.md t y1 0 l lf hl
          rw [Nat.zero_add] at hmd
          generalize ls[l] = lo at *
          obtain ⟨t1, x1, m1⟩ := lo
          obtain ⟨t2, x2, m2'⟩ := lf
          simp only [Leaf.dat, Sigma.mk.injEq] at hd
          obtain ⟨rfl, hd⟩ := hd
          have hd : x1 = x2 := eq_of_heq hd
          subst hd
          have hold : ∃ lv, m1 = .at_ lv /\ Rep (RoS (cxB S base w B1 ch bds) (SS env' noP a'.tmps vs w' cs bs)) w' t1 lv [u] x1 (bs b.k (l + 1)) := by
           cases m1 with
           | at_ lv => exact ⟨lv, rfl, h5.rep⟩
           | bor _ _ _ => simp [Mode.settled] at hset
           | dead => simp [Mode.settled] at hset
          obtain ⟨lv, rfl, hrep⟩ := hold
          simp only at hmd hsl
          rcases hmd with ⟨hff, hmm⟩ | ⟨⟨e0, τ, hs⟩, hmm⟩
          ·subst hmm
           obtain ⟨z1, z2⟩ := Rep.flat (S' := fun k => (S k \/ k ∈ bds.flatten \/ w.heap.size <= k) /\ k ∉ B1 :: (bds'.flatten ++ bsx)) (w' := w') (m' := .ro) hff hrep
           refine ⟨.ro, rfl, ?_⟩
           have hFn : F l = [] := by
            simp only [F]; split <;> first | exact z1 | rfl
           rw [hFn]; exact z2
          ·obtain ⟨u1, u2⟩ := hsl e0 τ hs
           have hmove : ∀ {lv' : Lvl}, Rep (RoS (cxB S base w B1 ch bds) (SS env' noP a'.tmps vs w' cs bs)) w' t1 lv' [u] x1 (bs b.k (l + 1)) -> Rep (fun k => (S k \/ k ∈ bds.flatten \/ w.heap.size <= k) /\ k ∉ B1 :: (bds'.flatten ++ bsx)) w' t1 lv' [u] x1 (bs b.k (l + 1)) := fun hr' => Rep.move (fun k hk _ => ⟨hRo k hk, rfl⟩) (fun _ _ => rfl) hr'
           subst hmm
           unfold BoxSig.free at hfree
           cases hq : slotAt b.lv l with
           | fx => rw [hq] at hfree; cases hfree
           | dp =>
            obtain rfl : lv = .dp := by simpa using u1 hq
            refine ⟨.dp, by unfold BoxSig.md; rw [hq]; rfl, ?_⟩
            rw [show F l = bs b.k (l + 1) by simp only [F, hq]]
            exact hmove hrep
           | sh =>
            obtain rfl : lv = .sh := by simpa using u2 hq
            refine ⟨.sh, by unfold BoxSig.md; rw [hq]; rfl, ?_⟩
            rw [show F l = bs b.k (l + 1) by simp only [F, hq]]
            exact hmove hrep
           | ro =>
            refine ⟨.ro, by unfold BoxSig.md; rw [hq]; rfl, ?_⟩
            rw [show F l = [] by simp only [F, hq]]
            refine Rep.roS hrep (fun k hk _ => hRo k hk) (fun k hk => ⟨?_, fun hm => ?_⟩)
            ·rcases hmine k (hrel.own _ _ _ hk).1 with h6 | h6
             ·rcases List.mem_cons.1 h6 with rfl | h6
              ·have := (hrel.disj _ _ _ _ _ hBin hk).2; omega
              ·exact .inr (.inl h6)
             ·exact .inr (.inr h6)
            ·rcases List.mem_cons.1 hm with rfl | hm
             ·have := (hrel.disj _ _ _ _ _ hBin hk).2; omega
             ·rcases List.mem_append.1 hm with hm | hm
              ·obtain ⟨l', _, h7⟩ := Y2s.1 hm
               have := (hrel.disj _ _ _ _ _ hk (hF l' k h7)).2
               obtain rfl : l = l' := by omega
               simp only [F, hq] at h7
               simp at h7
              ·obtain ⟨q', l', h7, h8⟩ := hbx _ hm
               exact h7 (hrel.disj _ _ _ _ _ h8 hk).1
         ·rw [Y2r]
          split
          ·simp only [F]
           cases hs : slotAt b.lv l <;> rw [hs] at hl <;> first | rfl | cases hl
          ·rfl
         ·refine List.nodup_cons.2 ⟨fun hm => ?_, List.nodup_append.2 ⟨Y3p (fun l => ?_) (fun l l' k h5 h6 => ?_) _, Y4i hrel hndr1.2, fun k hk k' hk' e => ?_⟩⟩
          ·rcases List.mem_append.1 hm with hm | hm
           ·obtain ⟨l, h5⟩ := hbd _ hm
            have := (hrel.disj _ _ _ _ _ hBin h5).2; omega
           ·obtain ⟨q, l, h5, h6⟩ := hbx _ hm
            exact h5 (hrel.disj _ _ _ _ _ h6 hBin).1
          ·simp only [F]
           split <;> first | exact hrel.nodup _ _ | exact List.nodup_nil
          ·have := (hrel.disj _ _ _ _ _ (hF l k h5) (hF l' k h6)).2; omega
          ·subst e
           obtain ⟨l, h5⟩ := hbd _ hk
           obtain ⟨q, l', h6, h7⟩ := hbx _ hk'
           exact h6 (hrel.disj _ _ _ _ _ h7 h5).1
         ·obtain ⟨q, l, h5⟩ := hLin k (List.mem_cons_of_mem _ hk)
          rcases hmine k (hrel.own _ _ _ h5).1 with h6 | h6
          ·rcases List.mem_cons.1 h6 with rfl | h6
           ·exfalso
            rcases List.mem_append.1 hk with hk | hk
            ·obtain ⟨l', h7⟩ := hbd _ hk
             have := (hrel.disj _ _ _ _ _ hBin h7).2; omega
            ·obtain ⟨q', l', h7, h8⟩ := hbx _ hk
             exact h7 (hrel.disj _ _ _ _ _ h8 hBin).1
           ·exact .inl h6
          ·exact .inr h6
        ·simp at hv
       ·simp at hv
      ·simp at hv
   cases e with
   | ret => exact fin hK
   | normal => exact fin hK
   | _ => simp [endB] at hK
  ·simp at h
 ·simp at h
end
end Go.FP

namespace Go.FP
open Go.RowKit
section
variable {P : Program} {T : Tab}
end
end Go.FP

namespace Go.FP
open Go.RowKit
abbrev Foot1 := Option (Nat × List Nat)
abbrev Foot := Option (List Nat × List Nat)
def Dis : Foot -> Foot -> Prop
 | some (W, R), some (W', R') => (∀ w ∈ W, w ∉ W' /\ w ∉ R') /\ (∀ w ∈ W', w ∉ R)
 | _, _ => False
def puts : Env -> List Nat -> List AV -> Env
 | env, w :: W, v :: vs => puts (put env w v) W vs
 | env, _, _ => env
theorem Y9c : ∀ (env : Env) {a b : Nat} (u v : AV), a ≠ b -> put (put env a u) b v = put (put env b v) a u
 | [], a, b, u, v, h => by cases a <;> cases b <;> rfl
 | x :: env, 0, 0, u, v, h => absurd rfl h
 | x :: env, 0, b + 1, u, v, h => rfl
 | x :: env, a + 1, 0, u, v, h => rfl
 | x :: env, a + 1, b + 1, u, v, h => by
  show x :: put (put env a u) b v = x :: put (put env b v) a u
  rw [Y9c env u v (fun e => h (by rw [e]))]
theorem Y1r : ∀ (W : List Nat) (vs : List AV) (env : Env), (puts env W vs).length = env.length
 | [], _, _ => by simp [puts]
 | w :: W, [], _ => rfl
 | w :: W, v :: vs, env => by simp only [puts]; rw [Y1r W vs, Y7]
theorem Yx {r : Nat} : ∀ {W : List Nat} {vs : List AV} {env : Env}, r ∉ W -> get (puts env W vs) r = get env r
 | [], vs, env, h => by simp [puts]
 | w :: W, [], env, h => rfl
 | w :: W, v :: vs, env, h => by
  simp only [List.mem_cons, not_or] at h
  simp only [puts]
  rw [Yx h.2, Y1l, if_neg (fun e => h.1 e.1)]
theorem Y43 {r : Nat} : ∀ {W : List Nat} {vs : List AV} {env env' : Env}, r ∈ W -> vs.length = W.length -> env.length = env'.length -> get (puts env W vs) r = get (puts env' W vs) r
 | [], vs, env, env', h, _, _ => by simp at h
 | w :: W, [], env, env', h, hl, _ => by simp at hl
 | w :: W, v :: vs, env, env', h, hl, he => by
  simp only [puts]
  by_cases hr : r ∈ W
  ·exact Y43 hr (by simpa using hl) (by rw [Y7, Y7, he])
  ·rw [Yx hr, Yx hr, Y1l, Y1l, he]
   have hw : r = w := by
    rcases List.mem_cons.1 h with h | h
    ·exact h
    ·exact absurd h hr
   by_cases hlt : w < env'.length
   ·rw [if_pos ⟨hw, hlt⟩, if_pos ⟨hw, hlt⟩]
   ·rw [if_neg (fun e => hlt e.2), if_neg (fun e => hlt e.2), Y1t _ _ (by omega), Y1t _ _ (by omega)]
theorem Y9d {w : Nat} {v : AV} : ∀ {W : List Nat} {vs : List AV} {env : Env}, w ∉ W -> puts (put env w v) W vs = put (puts env W vs) w v
 | [], vs, env, h => by simp [puts]
 | w' :: W, [], env, h => rfl
 | w' :: W, v' :: vs, env, h => by
  simp only [List.mem_cons, not_or] at h
  simp only [puts]
  rw [Y9c env v v' h.1, Y9d h.2]
theorem Y82 : ∀ {W W' : List Nat} {vs vs' : List AV} {env : Env}, (∀ w ∈ W, w ∉ W') -> puts (puts env W vs) W' vs' = puts (puts env W' vs') W vs
 | [], W', vs, vs', env, h => by simp [puts]
 | w :: W, W', [], vs', env, h => by simp [puts]
 | w :: W, W', v :: vs, vs', env, h => by
  simp only [puts]
  rw [Y82 (fun w' hw' => h w' (List.mem_cons_of_mem _ hw')), Y9d (h w List.mem_cons_self)]
section
variable (J : Nat -> AV -> Prop) (step : Nat -> Env -> Option Env) (foot : Nat -> Env -> Foot)
def AllJ (env : Env) : Prop := ∀ r, J r (get env r)
def Mild : Prop := ∀ i env W Rd env', AllJ J env -> foot i env = some (W, Rd) -> step i env = some env' -> ∃ vs, vs.length = W.length /\ env' = puts env W vs /\ ∀ env2 : Env, AllJ J env2 -> env2.length = env.length -> (∀ k ∈ W ++ Rd, get env2 k = get env k) -> step i env2 = some (puts env2 W vs) /\ foot i env2 = some (W, Rd)
def Trace : List Nat -> Env -> Env -> (Nat -> Foot) -> Prop
 | [], e, E, _ => AllJ J e /\ e = E
 | i :: l, e, E, φ => AllJ J e /\ foot i e = φ i /\ ∃ e1, step i e = some e1 /\ Trace l e1 E φ
variable {J step foot}
theorem Trace.all {l : List Nat} {e E : Env} {φ : Nat -> Foot} (h : Trace J step foot l e E φ) : AllJ J e := by
 cases l with
 | nil => exact h.1
 | cons i l => exact h.1
theorem Trace.swap (hM : Mild J step foot) {x y : Nat} {l : List Nat} {e E : Env} {φ : Nat -> Foot} (h : Trace J step foot (x :: y :: l) e E φ) (hd : Dis (φ x) (φ y)) : Trace J step foot (y :: x :: l) e E φ := by
 obtain ⟨je, fx, e1, sx, je1, fy, e2, sy, ht⟩ := h
 have je2 := ht.all
 cases hφx : φ x with
 | none => rw [hφx] at hd; exact hd.elim
 | some p =>
  cases hφy : φ y with
  | none => rw [hφx, hφy] at hd; exact hd.elim
  | some q =>
   obtain ⟨W, R⟩ := p
   obtain ⟨W', R'⟩ := q
   rw [hφx, hφy] at hd
   obtain ⟨d1, d2⟩ := hd
   rw [hφx] at fx
   rw [hφy] at fy
   obtain ⟨vs, lx, rfl, kx⟩ := hM x e W R e1 je fx sx
   obtain ⟨vs', ly, rfl, ky⟩ := hM y (puts e W vs) W' R' e2 je1 fy sy
   have dW : ∀ w ∈ W', w ∉ W := fun w hw hw' => (d1 w hw').1 hw
   obtain ⟨a1, a2⟩ := ky e je (Y1r _ _ _).symm (fun k hk => by
    rw [Yx]
    intro hkW
    rcases List.mem_append.1 hk with hk | hk
    ·exact (d1 k hkW).1 hk
    ·exact (d1 k hkW).2 hk)
   have je' : AllJ J (puts e W' vs') := fun r => by
    by_cases hr : r ∈ W'
    ·rw [Y43 hr ly (Y1r W vs e).symm]
     exact je2 r
    ·rw [Yx hr]; exact je r
   obtain ⟨b1, b2⟩ := kx (puts e W' vs') je' (Y1r _ _ _) (fun k hk => by
    rw [Yx]
    intro hkW
    rcases List.mem_append.1 hk with hk | hk
    ·exact dW k hkW hk
    ·exact d2 k hkW hk)
   refine ⟨je, a2.trans hφy.symm, _, a1, je', b2.trans hφx.symm, _, b1, ?_⟩
   rw [Y82 (fun w hw => dW w hw)]
   exact ht
theorem Trace.move (hM : Mild J step foot) {x : Nat} {B : List Nat} {E : Env} {φ : Nat -> Foot} : ∀ {A : List Nat} {e : Env}, Trace J step foot (x :: (A ++ B)) e E φ -> (∀ a ∈ A, Dis (φ x) (φ a)) -> Trace J step foot (A ++ x :: B) e E φ
 | [], e, h, _ => h
 | a :: A, e, h, hd => by
  obtain ⟨k0, k1, e1, k2, k3⟩ := Trace.swap hM h (hd a (by simp))
  exact ⟨k0, k1, e1, k2, Trace.move hM k3 (fun a' ha' => hd a' (by simp [ha']))⟩
theorem Trace.reorder (hM : Mild J step foot) {E : Env} {φ : Nat -> Foot} : ∀ {l π : List Nat} {e : Env}, l.Pairwise (· < ·) -> π.Perm l -> π.Pairwise (fun a x => x < a -> Dis (φ x) (φ a)) -> Trace J step foot l e E φ -> Trace J step foot π e E φ
 | [], π, e, _, hp, _, h => by rw [List.Perm.eq_nil hp]; exact h
 | x :: l, π, e, hs, hp, hg, ⟨k0, k1, e1, k2, k3⟩ => by
  have hx : x ∈ π := hp.symm.subset (by simp)
  obtain ⟨A, B, rfl⟩ := List.append_of_mem hx
  have hp' : (A ++ B).Perm l := by
   have h1 : (x :: (A ++ B)).Perm (x :: l) := List.perm_middle.symm.trans hp
   exact List.Perm.cons_inv h1
  have hs' := List.pairwise_cons.1 hs
  have hsub : (A ++ B).Sublist (A ++ x :: B) := List.Sublist.append_left (List.sublist_cons_self x B) A
  have hrec := Trace.reorder hM hs'.2 hp' (hg.sublist hsub) k3
  refine Trace.move hM ⟨k0, k1, e1, k2, hrec⟩ (fun a ha => ?_)
  have hax : x < a := hs'.1 a (hp'.subset (List.mem_append_left _ ha))
  exact (List.pairwise_append.1 hg).2.2 a ha x (by simp) hax
end
def unl (n : Nat) (listed : Array Bool) : List Nat := (List.range n).filter fun i => !listed.getD i true
theorem Y8d (m : Region.Mode) (ops : Array Oper) : ∀ (fuel t : Nat) (listed : Array Bool) (acc : List Nat), Region.linearise.go m ops fuel t listed acc = acc.reverse ++ Region.linearise.go m ops fuel t listed [] := linearise_go_acc m ops
theorem Ydk {n : Nat} {listed : Array Bool} (hs : listed.size = n) {i : Nat} (hi : i ∈ unl n listed) : (unl n listed).Perm (i :: unl n (listed.setIfInBounds i true)) := by
 have hnd : (unl n listed).Nodup := List.Nodup.sublist List.filter_sublist List.nodup_range
 have hnd2 : (i :: unl n (listed.setIfInBounds i true)).Nodup := by
  refine List.nodup_cons.2 ⟨fun h => ?_, List.Nodup.sublist List.filter_sublist List.nodup_range⟩
  simp only [unl, List.mem_filter, List.mem_range] at h
  have : i < listed.size := by omega
  simp [this] at h
 refine (List.perm_ext_iff_of_nodup hnd hnd2).2 (fun k => ?_)
 simp only [unl, List.mem_filter, List.mem_range, List.mem_cons] at hi ⊢
 by_cases hk : k = i
 ·subst hk
  constructor
  ·intro _; exact .inl rfl
  ·intro _; exact hi
 ·have hki : ¬ i = k := fun h => hk h.symm
  constructor
  ·intro ⟨h1, h2⟩
   refine .inr ⟨h1, ?_⟩
   have h1' : k < listed.size := by omega
   simp only [Array.getD_eq_getD_getElem?, Array.getElem?_setIfInBounds, if_neg hki] at h2 ⊢
   exact h2
  ·rintro (h | ⟨h1, h2⟩)
   ·exact absurd h hk
   ·refine ⟨h1, ?_⟩
    simp only [Array.getD_eq_getD_getElem?, Array.getElem?_setIfInBounds, if_neg hki] at h2 ⊢
    exact h2
theorem Yal (m : Region.Mode) (ops : Array Oper) (hback : ∀ (i : Nat) (o : Oper), ops[i]? = some o -> ∀ e ∈ o.after, Region.binds m e = true -> e.on < i) : ∀ (fuel t : Nat) (listed : Array Bool), listed.size = ops.size -> (unl ops.size listed).length <= fuel ->
  (Region.linearise.go m ops fuel t listed []).Perm (unl ops.size listed) /\ ∀ (A : List Nat) (i : Nat) (B : List Nat), Region.linearise.go m ops fuel t listed [] = A ++ i :: B -> ∀ (o : Oper), ops[i]? = some o -> ∀ e ∈ o.after, Region.binds m e = true -> listed.getD e.on false = true \/ e.on ∈ A
 | 0, t, listed, hs, hl => by
  have : unl ops.size listed = [] := List.length_eq_zero_iff.1 (by omega)
  rw [this]
  exact ⟨by simp [Region.linearise.go], fun A i B h => by simp [Region.linearise.go] at h⟩
 | fuel + 1, t, listed, hs, hl => by
  rw [Region.linearise.go]
  let rs := (List.range ops.size).filter fun i => !listed.getD i true && ((ops[i]?).map (·.after.all fun e => !Region.binds m e || listed.getD e.on false)).getD false
  have hrs : ∀ i ∈ rs, i ∈ unl ops.size listed /\ ∀ (o : Oper), ops[i]? = some o -> ∀ e ∈ o.after, Region.binds m e = true -> listed.getD e.on false = true := by
   intro i hi
   simp only [rs, List.mem_filter, Bool.and_eq_true] at hi
   obtain ⟨h1, h2, h3⟩ := hi
   refine ⟨by simp only [unl, List.mem_filter]; exact ⟨h1, h2⟩, fun o ho e he hb => ?_⟩
   rw [ho] at h3
   simp only [Option.map_some, Option.getD_some, Array.all_eq_true'] at h3
   have := h3 e he
   simpa [hb] using this
  show List.Perm (match rs[t % rs.length]? with | some i => Region.linearise.go m ops fuel (t / rs.length) (listed.setIfInBounds i true) [i] | none => [].reverse) _ /\ _
  cases hu : unl ops.size listed with
  | nil =>
   have hrs0 : rs = [] := by
    apply List.eq_nil_iff_forall_not_mem.2
    intro i hi
    have := (hrs i hi).1
    rw [hu] at this
    simp at this
   have e0 : rs[t % rs.length]? = none := by rw [hrs0]; rfl
   refine ⟨by rw [e0]; exact List.Perm.refl _, fun A i B h => ?_⟩
   change (match rs[t % rs.length]? with | some i => Region.linearise.go m ops fuel (t / rs.length) (listed.setIfInBounds i true) [i] | none => [].reverse) = _ at h
   rw [e0] at h
   simp at h
  | cons i0 us =>
   have hi0 : i0 ∈ rs := by
    have hm0 : i0 ∈ unl ops.size listed := by rw [hu]; simp
    simp only [unl, List.mem_filter, List.mem_range] at hm0
    simp only [rs, List.mem_filter, List.mem_range, Bool.and_eq_true]
    refine ⟨hm0.1, hm0.2, ?_⟩
    rw [Array.getElem?_eq_getElem hm0.1]
    simp only [Option.map_some, Option.getD_some, Array.all_eq_true']
    intro e he
    apply Decidable.byContradiction
    intro hcon
    have hbe : Region.binds m e = true := by
     cases hb : Region.binds m e with
     | true => rfl
     | false => rw [hb] at hcon; simp at hcon
    apply hcon
    have hlt := hback i0 _ (Array.getElem?_eq_getElem hm0.1) e he hbe
    have : listed.getD e.on false = true := by
     apply Decidable.byContradiction
     intro hne
     have hsz : e.on < listed.size := by omega
     have hmem : e.on ∈ unl ops.size listed := by
      simp only [unl, List.mem_filter, List.mem_range]
      refine ⟨by omega, ?_⟩
      simp only [Array.getD_eq_getD_getElem?, Array.getElem?_eq_getElem hsz, Option.getD_some] at hne ⊢
      simpa using hne
     rw [hu] at hmem
     have hsorted : (i0 :: us).Pairwise (· < ·) := by
      rw [<- hu]
      exact List.Pairwise.sublist List.filter_sublist List.pairwise_lt_range
     rcases List.mem_cons.1 hmem with h | h
     ·omega
     ·have := (List.pairwise_cons.1 hsorted).1 _ h
      omega
    rw [this]
    simp
   have hpos : 0 < rs.length := List.length_pos_of_mem hi0
   have hlt : t % rs.length < rs.length := Nat.mod_lt _ hpos
   let i := rs[t % rs.length]
   have ei : rs[t % rs.length]? = some i := List.getElem?_eq_getElem hlt
   have him : i ∈ rs := List.getElem_mem hlt
   obtain ⟨k1, k2⟩ := hrs i him
   have hperm := Ydk hs k1
   have hlen : (unl ops.size (listed.setIfInBounds i true)).length <= fuel := by
    have := hperm.length_eq
    simp only [List.length_cons] at this
    omega
   obtain ⟨g1, g2⟩ := Yal m ops hback fuel (t / rs.length) (listed.setIfInBounds i true) (by simpa using hs) hlen
   have eg : Region.linearise.go m ops fuel (t / rs.length) (listed.setIfInBounds i true) [i] = i :: Region.linearise.go m ops fuel (t / rs.length) (listed.setIfInBounds i true) [] := by
    rw [Y8d]; rfl
   rw [<- hu]
   refine ⟨by rw [ei]; simp only; rw [eg]; exact (List.Perm.cons i g1).trans hperm.symm, fun A j B h o ho e he hb => ?_⟩
   change (match rs[t % rs.length]? with | some i => Region.linearise.go m ops fuel (t / rs.length) (listed.setIfInBounds i true) [i] | none => [].reverse) = _ at h
   rw [ei] at h
   simp only at h
   rw [eg] at h
   cases A with
   | nil =>
    simp only [List.nil_append, List.cons.injEq] at h
    rw [<- h.1] at ho
    exact .inl (k2 o ho e he hb)
   | cons a A =>
    simp only [List.cons_append, List.cons.injEq] at h
    obtain ⟨rfl, h⟩ := h
    rcases g2 A j B h o ho e he hb with h1 | h1
    ·by_cases hea : e.on = i
     ·exact .inr (by rw [hea]; simp)
     ·left
      have hie : ¬ i = e.on := fun h => hea h.symm
      simp only [Array.getD_eq_getD_getElem?, Array.getElem?_setIfInBounds, if_neg hie] at h1 ⊢
      exact h1
    ·exact .inr (List.mem_cons_of_mem _ h1)
end Go.FP

namespace Go.FP
open Go.RowKit
section
variable {R : Type} {T : Tab} {sig : FuncId -> Option Sig} {caps : FuncId -> List Ty} {orc : Orc}
theorem Yba (op : BinOp) (k : IntKind) (a b : Int) (K : AV -> Option R) : intOp op k a b K = (intOp op k a b some).bind K := by
 unfold intOp
 repeat' split
 all_goals first | rfl | (cases h : decide (b = 0) <;> rfl) | (cases h : decide (b < 0) <;> rfl) | skip
theorem Ybb (op : BinOp) (a b : ByteArray) (K : AV -> Option R) : strOp op a b K = (strOp op a b some).bind K := by
 unfold strOp
 repeat' split
 all_goals first | rfl | (cases h : decide (a.size + b.size <= 140737488355328) <;> rfl)
theorem Y9e (op : BinOp) (k : IntKind) (a b : Int) (K : AV -> Option R) : shiftOp op k a b K = (shiftOp op k a b some).bind K := by
 unfold shiftOp
 split
 ·cases h : decide (b < 0) <;> rfl
 ·cases h : decide (b < 0) <;> rfl
 ·rfl
theorem Ybc (op : BinOp) (t : TypeId) (x y : AV) (K : AV -> Option R) : aggOp T op t x y K = (aggOp T op t x y some).bind K := by
 unfold aggOp
 repeat' split
 all_goals rfl
theorem Y2z (op : BinOp) (t : TypeId) (x y : AV) (K : AV -> Option R) : binOp1 T op t x y K = (binOp1 T op t x y some).bind K := by
 unfold binOp1
 repeat' split
 all_goals first | rfl | exact Yba _ _ _ _ _ | exact Y9e _ _ _ _ _ | exact Ybb _ _ _ _ | exact Ybc _ _ _ _ _
theorem Y3h (op : UnOp) (x : AV) (K : AV -> Option R) : unOp1 op x K = (unOp1 op x some).bind K := by
 unfold unOp1
 repeat' split
 all_goals first | rfl
theorem Y4o (te : TE) (lv : Lvl) (s x : List te.ty.D) (K : Leaf -> Option R) : appendTo te lv s x K = (appendTo te lv s x some).bind K := by
 unfold appendTo
 cases h : decide ((s.length + x.length) * te.bytes <= 140737488355328) <;> rfl
theorem Yt {b : Bool} {α β : Type} {x : Option α} {k : α -> Option β} {y : Option β} (h : y = x.bind k) : (bif b then y else none) = (bif b then x else none).bind k := by
 cases b
 ·rfl
 ·exact h
theorem Y2a {α β γ : Type} {z : Option γ} {f : γ -> Option α} {g : γ -> Option β} {k : α -> Option β} (h : ∀ c, g c = (f c).bind k) : z.bind g = (z.bind f).bind k := by
 cases z
 ·rfl
 ·exact h _
theorem Y4p (te : TE) (lv : Lvl) (s x : List te.ty.D) (G : Leaf -> Env) (K : Env -> Option R) : appendTo te lv s x (fun l => K (G l)) = (appendTo te lv s x (fun l => some (G l))).bind K := by
 rw [Y4o, Y4o te lv s x (fun l => some (G l))]
 exact Y2a (fun _ => rfl)
theorem Ya6 (op : BinOp) (t : TypeId) (x y : AV) (G : AV -> Env) (K : Env -> Option R) : binOp1 T op t x y (fun l => K (G l)) = (binOp1 T op t x y (fun l => some (G l))).bind K := by
 rw [Y2z, Y2z op t x y (fun l => some (G l))]
 exact Y2a (fun _ => rfl)
theorem Ybd (op : UnOp) (x : AV) (G : AV -> Env) (K : Env -> Option R) : unOp1 op x (fun l => K (G l)) = (unOp1 op x (fun l => some (G l))).bind K := by
 rw [Y3h, Y3h op x (fun l => some (G l))]
 exact Y2a (fun _ => rfl)
theorem Y9f (d : Option Nat) (te : TE) (s : Operand) (xs : List te.ty.D) (deep : Bool) (env : Env) (K : Env -> Option R) : appendS d te s xs deep env K = (appendS d te s xs deep env some).bind K := by
 unfold appendS
 repeat' split
 all_goals first | rfl | exact Y4p _ _ _ _ _ _
theorem Y9g (d : Option Nat) (t : TypeId) (s x : Operand) (env : Env) (K : Env -> Option R) : append1 T d t s x env K = (append1 T d t s x env some).bind K := by
 unfold append1
 repeat' split
 all_goals first | rfl | exact Y9f _ _ _ _ _ _ _
theorem Y9h (d : Nat) (te : TE) (r j : Nat) (i : Int) (o : Nat) (x : Operand) (env : Env) (K : Env -> Option R) : appendN d te r j i o x env K = (appendN d te r j i o x env some).bind K := by
 unfold appendN
 repeat' split
 all_goals first | rfl | skip
 all_goals (refine Yt ?_; repeat' split)
 all_goals first | rfl | exact Y4p _ _ _ _ _ _
theorem Y7k (s r j : Nat) (i : Int) (o : Nat) (l : Leaf) (a : Operand) (env : Env) (K : Env -> Option R) : storeGrow s r j i o l a env K = (storeGrow s r j i o l a env some).bind K := by
 unfold storeGrow
 repeat' split
 all_goals first | rfl | (exact Yt rfl) | (refine Yt ?_; split <;> rfl)
theorem Ybe (d : Option Nat) (f : FuncId) (sg : Sig) (args : List Operand) (extra : List AV) (env : Env) (K : Env -> Option R) : callM caps orc d f sg args extra env K = (callM caps orc d f sg args extra env some).bind K := by
 unfold callM
 split
 ·split
  ·simp only
   split
   ·split
    ·split
     ·rfl
     ·split
      ·rfl
      ·refine Y2a (fun xs => ?_)
       split
       ·rfl
       ·split
        ·split
         ·rfl
         ·split <;> rfl
        ·rfl
    ·rfl
   ·rfl
  ·rfl
 ·rfl
theorem Ybf (d : Option Nat) (f : FuncId) (sg : Sig) (args : List Operand) (extra : List AV) (env : Env) (K : Env -> Option R) : callO caps orc d f sg args extra env K = (callO caps orc d f sg args extra env some).bind K := by
 unfold callO
 split
 ·split
  ·split
   ·simp only
    split
    ·split
     ·rfl
     ·split
      ·rfl
      ·exact Y2a (fun xs => by
        split
        ·split <;> rfl
        ·rfl)
    ·rfl
   ·rfl
  ·rfl
 ·rfl
theorem Ybg (d : Option Nat) (f : FuncId) (sg : Sig) (args : List Operand) (extra : List AV) (env : Env) (K : Env -> Option R) : callS orc d f sg args extra env K = (callS orc d f sg args extra env some).bind K := rfl
theorem Ybh (d : Option Nat) (f : FuncId) (sg : Sig) (b : BoxSig) (args : List Operand) (extra : List AV) (env : Env) (K : Env -> Option R) : callB caps orc d f sg b args extra env K = (callB caps orc d f sg b args extra env some).bind K := by
 unfold callB
 simp only
 split
 ·split
  ·split
   ·split
    ·rfl
    ·split
     ·rfl
     ·refine Y2a (fun xs => ?_)
      split
      ·rfl
      ·split
       ·split <;> rfl
       ·rfl
   ·rfl
  ·rfl
 ·rfl
theorem Ybi (d : Option Nat) (f : FuncId) (sg : Sig) (id : TypeId) (args : List Operand) (extra : List AV) (env : Env) (K : Env -> Option R) : callN caps orc d f sg id args extra env K = (callN caps orc d f sg id args extra env some).bind K := rfl
theorem Y9i (t : TypeId) (a v : Operand) (env : Env) (K : Env -> Option R) : storeFn t a v env K = (storeFn t a v env some).bind K := by
 unfold storeFn
 split
 ·split
  ·split <;> rfl
  ·rfl
 ·rfl
theorem Y3i (d : Option Nat) (f : FuncId) (args : List Operand) (extra : List AV) (env : Env) (K : Env -> Option R) : call1 sig caps orc d f args extra env K = (call1 sig caps orc d f args extra env some).bind K := by
 unfold call1
 split
 ·rfl
 ·split
  ·exact Ybh _ _ _ _ _ _ _ _
  split
  ·exact Ybi _ _ _ _ _ _ _ _
  split
  ·split
   ·exact Ybg _ _ _ _ _ _ _
   simp only
   split
   ·split
    ·rfl
    ·split
     ·rfl
     ·exact Y2a (fun xs => by split <;> rfl)
   ·rfl
  ·split
   ·exact Ybf _ _ _ _ _ _ _
   ·exact Ybe _ _ _ _ _ _ _
theorem Ya7 (t : TypeId) (a v : Operand) (env : Env) (K : Env -> Option R) : store1 T t a v env K = (store1 T t a v env some).bind K := by
 unfold store1
 split
 ·exact Y9i _ _ _ _ _
 split
 ·split
  ·exact Y7k _ _ _ _ _ _ _ _ _
  ·rfl
 unfold storePlain
 repeat' split
 all_goals first | rfl | (refine Yt ?_; split <;> rfl) | (simp only; repeat' split) | skip
 all_goals first | rfl | exact Yt rfl
theorem Ybj (d : Nat) (o : Oper) (env : Env) (K : Env -> Option R) : evVal T sig caps orc d o env K = (evVal T sig caps orc d o env some).bind K := by
 cases hop : o.op with
 | binOp op t x y t' => simp only [evVal, hop]; exact Ya6 _ _ _ _ _ _
 | unOp op t x => simp only [evVal, hop]; exact Ybd _ _ _ _
 | pick cc a b =>
  simp only [evVal, hop]
  split
  ·rename_i t _
   cases t <;> rfl
  ·rfl
 | index t x i =>
  simp only [evVal, hop]
  split
  ·exact Y2a (fun _ => rfl)
  ·rfl
 | call cl =>
  simp only [evVal, hop]
  split
  ·exact Y3i _ _ _ _ _ _
  ·split
   ·exact Y3i _ _ _ _ _ _
   ·exact Y3i _ _ _ _ _ _
   ·exact Y3i _ _ _ _ _ _
   ·rfl
  ·repeat' split
   all_goals rfl
  ·repeat' split
   all_goals first | rfl | exact Y9g _ _ _ _ _ _ | exact Y9h _ _ _ _ _ _ _ _ _
  ·repeat' split
   all_goals rfl
  ·repeat' split
   all_goals rfl
  ·rfl
 | makeFunc fn first captured =>
  cases fn with
  | func f =>
   simp only [evVal, hop]
   split
   ·split
    ·rfl
    ·rfl
   ·rfl
  | _ => simp only [evVal, hop]; rfl
 | slice t x lo hi mx =>
  simp only [evVal, hop]
  repeat' split
  all_goals first | rfl | exact Yt rfl
 | indexAddr t x i =>
  simp only [evVal, hop]
  repeat' split
  all_goals first | rfl | exact Yt rfl
 | makeSlice t l c =>
  simp only [evVal, hop]
  repeat' split
  all_goals first | rfl | exact Yt rfl
 | extract x i =>
  simp only [evVal, hop]
  repeat' split
  all_goals rfl
 | load t x =>
  simp only [evVal, hop]
  repeat' split
  all_goals rfl
 | fieldAddr t x f =>
  simp only [evVal, hop]
  repeat' split
  all_goals rfl
 | field t x f =>
  simp only [evVal, hop]
  repeat' split
  all_goals rfl
 | build t ps =>
  simp only [evVal, hop]
  repeat' split
  all_goals rfl
 | buildSlice t n ps =>
  simp only [evVal, hop]
  repeat' split
  all_goals rfl
 | convert t u x =>
  simp only [evVal, hop]
  repeat' split
  all_goals rfl
 | nilCheck x =>
  simp only [evVal, hop]
  repeat' split
  all_goals rfl
 | alloc e =>
  simp only [evVal, hop]
  repeat' split
  all_goals rfl
 | box e x =>
  simp only [evVal, hop]
  repeat' split
  all_goals rfl
 | assign x =>
  simp only [evVal, hop]
  repeat' split
  all_goals rfl
 | move x => simp only [evVal, hop]; rfl
 | _ => simp only [evVal, hop]; rfl
theorem Y3t (o : Oper) (env : Env) (K : Env -> Option R) : evOp T sig caps orc o env K = (evOp T sig caps orc o env some).bind K := by
 unfold evOp
 repeat' split
 all_goals first | rfl | exact Ybj _ _ _ _ | exact Ya7 _ _ _ _ _
theorem Y30 (o : Oper) (env : Env) (K : Env -> Option R) : skipOp o env K = (skipOp o env some).bind K := by
 unfold skipOp
 repeat' split
 all_goals rfl
theorem Ybk (ops : Array Oper) (o : Oper) (rest : List Oper) (env : Env) (K : Env -> Option R) : evOps T sig caps orc ops (o :: rest) env K = (evOps T sig caps orc ops [o] env some).bind fun env' => evOps T sig caps orc ops rest env' K := by
 simp only [evOps]
 split
 ·exact Y3t _ _ _
 ·split
  ·rfl
  ·split
   ·exact Y30 _ _ _
   ·rename_i b _
    cases b
    ·simp only [cond_false]
     split
     ·exact Y30 _ _ _
     ·exact Y3t _ _ _
    ·simp only [cond_true]
     split
     ·exact Y3t _ _ _
     ·exact Y30 _ _ _
   ·rfl
end
end Go.FP

namespace Go.FP
open Go.RowKit
def rootsOf : AV -> List Nat
 | .path r _ => [r]
 | .clo _ caps => caps.map (·.1)
 | _ => []
def opReads (env : Env) : Operand -> List Nat
 | .tmp s => s :: rootsOf (get env s)
 | _ => []
def Agree (S : List Nat) (e1 e2 : Env) : Prop := e2.length = e1.length /\ ∀ k ∈ S, get e2 k = get e1 k
theorem Agree.mono {S S' : List Nat} {e1 e2 : Env} (h : Agree S e1 e2) (hs : ∀ k ∈ S', k ∈ S) : Agree S' e1 e2 := ⟨h.1, fun k hk => h.2 k (hs k hk)⟩
theorem Agree.rd {env env2 : Env} {x : Operand} (h : Agree (opReads env x) env env2) (ty : Option Ty) : rd ty env2 x = rd ty env x := by
 cases x with
 | tmp s =>
  have := h.2 s (by simp [opReads])
  simp only [FP.rd, this]
 | _ => rfl
theorem Agree.reads {env env2 : Env} {x : Operand} (h : Agree (opReads env x) env env2) : opReads env2 x = opReads env x := by
 cases x with
 | tmp s =>
  have := h.2 s (by simp [opReads])
  simp only [opReads, this]
 | _ => rfl
theorem Agree.root {env env2 : Env} {x : Operand} {q off : Nat} (h : Agree (opReads env x) env env2) (ty : Option Ty) (hx : FP.rd ty env x = .path q off) : get env2 q = get env q \/ (∃ s, x = .tmp s /\ s = q) := by
 cases x with
 | tmp s =>
  simp only [FP.rd] at hx
  cases hg : get env s with
  | path r o =>
   rw [hg] at hx
   simp only [AV.path.injEq] at hx
   exact .inl (h.2 q (by simp [opReads, hg, rootsOf, hx.1]))
  | con k ls =>
   rw [hg] at hx
   cases k with
   | box e => simp only [AV.path.injEq] at hx; exact .inr ⟨s, rfl, hx.1⟩
   | _ => simp at hx
  | _ => rw [hg] at hx; simp at hx
 | const v =>
  exfalso
  have typed : ∀ ty, constAV ty v ≠ .path q off := by
   intro ty h
   unfold constAV at h
   split at h
   ·simp at h
   ·split at h
    ·split at h
     ·simp [mkCon] at h
     ·simp at h
    ·simp at h
  simp only [FP.rd] at hx
  split at hx <;> first | (simp at hx; done) | exact typed _ hx
 | func f => simp [FP.rd] at hx
 | global g => simp [FP.rd] at hx
theorem Agree.rootB {env env2 : Env} {x : Operand} {q off : Nat} (h : Agree (opReads env x) env env2) (ty : Option Ty) (hx : FP.rd ty env x = .path q off) : get env2 q = get env q := by
 rcases h.root ty hx with h1 | ⟨s, rfl, rfl⟩
 ·exact h1
 ·exact h.2 s (by simp [opReads])
def pureReads (env : Env) : Op -> Option (List Nat)
 | .move x | .nilCheck x | .load _ x | .fieldAddr _ x _ | .field _ x _ | .unOp _ _ x | .convert _ _ x => some (opReads env x)
 | .pick c a b => some (opReads env c ++ (opReads env a ++ opReads env b))
 | .binOp _ _ x y _ | .indexAddr _ x y | .index _ x y | .makeSlice _ x y => some (opReads env x ++ opReads env y)
 | .alloc _ => some []
 | .makeFunc _ _ captured => some (captured.toList.flatMap (opReads env))
 | _ => none
section
variable {R : Type} {T : Tab} {sig : FuncId -> Option Sig} {caps : FuncId -> List Ty} {orc : Orc}
theorem Ybl {op : BinOp} {t : TypeId} {x y : AV} {G : AV -> Env} {e : Env} (h : binOp1 T op t x y (fun v => some (G v)) = some e) : ∃ v, e = G v /\ ∀ {A : Type} (K : AV -> Option A), binOp1 T op t x y K = K v := by
 rw [Y2z] at h
 obtain ⟨v, h1, h2⟩ := Option.bind_eq_some_iff.1 h
 exact ⟨v, (Option.some.inj h2).symm, fun K => by rw [Y2z, h1]; rfl⟩
theorem Yc6 {op : UnOp} {x : AV} {G : AV -> Env} {e : Env} (h : unOp1 op x (fun v => some (G v)) = some e) : ∃ v, e = G v /\ ∀ {A : Type} (K : AV -> Option A), unOp1 op x K = K v := by
 rw [Y3h] at h
 obtain ⟨v, h1, h2⟩ := Option.bind_eq_some_iff.1 h
 exact ⟨v, (Option.some.inj h2).symm, fun K => by rw [Y3h, h1]; rfl⟩
theorem Y4 {env : Env} {d : Nat} (h : (get env d).quiet = true) (v : AV) : setD (some d) env v = put env d v := by
 simp only [setD, h, if_true]
theorem Yc7 {o : Oper} {d : Nat} {env e1 : Env} {Rd : List Nat} (hr : pureReads env o.op = some Rd) (hq : (get env d).quiet = true) (h : evVal T sig caps orc d o env some = some e1) :
  ∃ v, e1 = put env d v /\ ∀ env2, Agree Rd env env2 -> (get env2 d).quiet = true -> evVal T sig caps orc d o env2 some = some (put env2 d v) /\ pureReads env2 o.op = some Rd := by
 cases hop : o.op with
 | move x =>
  rw [hop] at hr
  simp only [pureReads, Option.some.injEq] at hr
  subst hr
  simp only [evVal, hop, Option.some.injEq] at h
  rw [Y4 hq] at h
  exact ⟨_, h.symm, fun env2 ha hq2 => ⟨by simp only [evVal, hop]; rw [ha.rd, Y4 hq2], by simp only [pureReads, ha.reads]⟩⟩
 | nilCheck x =>
  rw [hop] at hr
  simp only [pureReads, Option.some.injEq] at hr
  subst hr
  simp only [evVal, hop] at h
  split at h
  ·rename_i q off hx
   simp only [Option.some.injEq] at h
   rw [Y4 hq] at h
   exact ⟨_, h.symm, fun env2 ha hq2 => ⟨by simp only [evVal, hop]; rw [ha.rd, hx]; simp only [Y4 hq2], by simp only [pureReads, ha.reads]⟩⟩
  ·rename_i f cs hx
   simp only [Option.some.injEq] at h
   rw [Y4 hq] at h
   exact ⟨_, h.symm, fun env2 ha hq2 => ⟨by simp only [evVal, hop]; rw [ha.rd, hx]; simp only [Y4 hq2], by simp only [pureReads, ha.reads]⟩⟩
  ·rename_i f cs hx
   simp only [Option.some.injEq] at h
   rw [Y4 hq] at h
   exact ⟨_, h.symm, fun env2 ha hq2 => ⟨by simp only [evVal, hop]; rw [ha.rd, hx]; simp only [Y4 hq2], by simp only [pureReads, ha.reads]⟩⟩
  ·rename_i f cs hx
   simp only [Option.some.injEq] at h
   rw [Y4 hq] at h
   exact ⟨_, h.symm, fun env2 ha hq2 => ⟨by simp only [evVal, hop]; rw [ha.rd, hx]; simp only [Y4 hq2], by simp only [pureReads, ha.reads]⟩⟩
  ·rename_i f cs hx
   simp only [Option.some.injEq] at h
   rw [Y4 hq] at h
   exact ⟨_, h.symm, fun env2 ha hq2 => ⟨by simp only [evVal, hop]; rw [ha.rd, hx]; simp only [Y4 hq2], by simp only [pureReads, ha.reads]⟩⟩
  ·simp at h
 | load t x =>
  rw [hop] at hr
  simp only [pureReads, Option.some.injEq] at hr
  subst hr
  simp only [evVal, hop] at h
  split at h
  ·rename_i τ ht
   split at h
   ·rename_i q off hx
    split at h
    ·rename_i e ls hb
     split at h
     ·rename_i hty
      simp only [Option.some.injEq] at h
      rw [Y4 hq] at h
      exact ⟨_, h.symm, fun env2 ha hq2 => ⟨by simp only [evVal, hop]; rw [ht]; simp only; rw [ha.rd, hx]; simp only; rw [ha.rootB none hx, hb]; simp only; rw [if_pos hty, Y4 hq2], by simp only [pureReads, ha.reads]⟩⟩
     ·simp at h
    ·simp at h
   ·rename_i ls wr hx
    split at h
    ·rename_i hty
     simp only [Option.some.injEq] at h
     rw [Y4 hq] at h
     exact ⟨_, h.symm, fun env2 ha hq2 => ⟨by simp only [evVal, hop]; rw [ht]; simp only; rw [ha.rd, hx]; simp only; rw [if_pos hty, Y4 hq2], by simp only [pureReads, ha.reads]⟩⟩
    ·simp at h
   ·simp at h
  ·rename_i ht
   split at h
   ·rename_i hfn
    split at h
    ·rename_i f cs hx
     simp only [Option.some.injEq] at h
     rw [Y4 hq] at h
     exact ⟨_, h.symm, fun env2 ha hq2 => ⟨by simp only [evVal, hop]; rw [ht]; simp only; rw [if_pos hfn, ha.rd, hx]; simp only [Y4 hq2], by simp only [pureReads, ha.reads]⟩⟩
    ·simp at h
   ·simp at h
 | fieldAddr s x f =>
  rw [hop] at hr
  simp only [pureReads, Option.some.injEq] at hr
  subst hr
  simp only [evVal, hop] at h
  split at h
  ·rename_i off τ hf
   split at h
   ·rename_i q o' hx
    simp only [Option.some.injEq] at h
    rw [Y4 hq] at h
    exact ⟨_, h.symm, fun env2 ha hq2 => ⟨by simp only [evVal, hop]; rw [hf]; simp only; rw [ha.rd, hx]; simp only [Y4 hq2], by simp only [pureReads, ha.reads]⟩⟩
   ·rename_i ls wr hx
    simp only [Option.some.injEq] at h
    rw [Y4 hq] at h
    exact ⟨_, h.symm, fun env2 ha hq2 => ⟨by simp only [evVal, hop]; rw [hf]; simp only; rw [ha.rd, hx]; simp only [Y4 hq2], by simp only [pureReads, ha.reads]⟩⟩
   ·simp at h
  ·simp at h
 | field s x f =>
  rw [hop] at hr
  simp only [pureReads, Option.some.injEq] at hr
  subst hr
  simp only [evVal, hop] at h
  split at h
  ·rename_i off τ hf
   split at h
   ·rename_i ls hx
    split at h
    ·rename_i hty
     simp only [Option.some.injEq] at h
     rw [Y4 hq] at h
     exact ⟨_, h.symm, fun env2 ha hq2 => ⟨by simp only [evVal, hop]; rw [hf]; simp only; rw [ha.rd, hx]; simp only; rw [if_pos hty, Y4 hq2], by simp only [pureReads, ha.reads]⟩⟩
    ·simp at h
   ·simp at h
  ·simp at h
 | unOp op t x =>
  rw [hop] at hr
  simp only [pureReads, Option.some.injEq] at hr
  subst hr
  simp only [evVal, hop] at h
  obtain ⟨v, rfl, hK⟩ := Yc6 h
  exact ⟨v, Y4 hq v, fun env2 ha hq2 => ⟨by simp only [evVal, hop]; rw [ha.rd, hK, Y4 hq2], by simp only [pureReads, ha.reads]⟩⟩
 | convert s dt x =>
  rw [hop] at hr
  simp only [pureReads, Option.some.injEq] at hr
  subst hr
  simp only [evVal, hop] at h
  split at h
  ·rename_i k k' k2 n hs ht hi
   simp only [Option.some.injEq] at h
   rw [Y4 hq] at h
   exact ⟨_, h.symm, fun env2 ha hq2 => ⟨by simp only [evVal, hop]; rw [hs, ht, ha.rd, hi]; simp only [Y4 hq2], by simp only [pureReads, ha.reads]⟩⟩
  ·rename_i hne
   split at h
   ·rename_i b hb
    simp only [Option.some.injEq] at h
    rw [Y4 hq] at h
    refine ⟨_, h.symm, fun env2 ha hq2 => ⟨?_, by simp only [pureReads, ha.reads]⟩⟩
    have e : (fun ty => rd ty env2 x) = (fun ty => rd ty env x) := funext fun ty => ha.rd ty
    simp only [evVal, hop]
    rw [ha.rd none, e]
    split
    ·rename_i k k' k2 n hs ht hi
     exact (hne _ _ _ _ hs ht hi).elim
    ·rw [hb]; simp only [Y4 hq2]
   ·simp at h
 | pick cc x y =>
  rw [hop] at hr
  simp only [pureReads, Option.some.injEq] at hr
  subst hr
  simp only [evVal, hop] at h
  split at h
  ·rename_i t hb
   cases t with
   | true =>
    simp only [cond_true, Option.some.injEq] at h
    rw [Y4 hq] at h
    refine ⟨_, h.symm, fun env2 ha hq2 => ?_⟩
    have h1 := ha.mono (S' := opReads env cc) (fun k hk => List.mem_append_left _ hk)
    have h2 := ha.mono (S' := opReads env x) (fun k hk => List.mem_append_right _ (List.mem_append_left _ hk))
    have h3 := ha.mono (S' := opReads env y) (fun k hk => List.mem_append_right _ (List.mem_append_right _ hk))
    exact ⟨by simp only [evVal, hop]; rw [h1.rd, hb]; simp only [cond_true]; rw [h2.rd, Y4 hq2], by simp only [pureReads, h1.reads, h2.reads, h3.reads]⟩
   | false =>
    simp only [cond_false, Option.some.injEq] at h
    rw [Y4 hq] at h
    refine ⟨_, h.symm, fun env2 ha hq2 => ?_⟩
    have h1 := ha.mono (S' := opReads env cc) (fun k hk => List.mem_append_left _ hk)
    have h2 := ha.mono (S' := opReads env x) (fun k hk => List.mem_append_right _ (List.mem_append_left _ hk))
    have h3 := ha.mono (S' := opReads env y) (fun k hk => List.mem_append_right _ (List.mem_append_right _ hk))
    exact ⟨by simp only [evVal, hop]; rw [h1.rd, hb]; simp only [cond_false]; rw [h3.rd, Y4 hq2], by simp only [pureReads, h1.reads, h2.reads, h3.reads]⟩
  ·simp at h
 | binOp op t x y t' =>
  rw [hop] at hr
  simp only [pureReads, Option.some.injEq] at hr
  subst hr
  simp only [evVal, hop] at h
  obtain ⟨v, rfl, hK⟩ := Ybl h
  refine ⟨v, Y4 hq v, fun env2 ha hq2 => ?_⟩
  have h1 := ha.mono (S' := opReads env x) (fun k hk => List.mem_append_left _ hk)
  have h2 := ha.mono (S' := opReads env y) (fun k hk => List.mem_append_right _ hk)
  exact ⟨by simp only [evVal, hop]; rw [h1.rd, h2.rd, hK, Y4 hq2], by simp only [pureReads, h1.reads, h2.reads]⟩
 | indexAddr t x y =>
  rw [hop] at hr
  simp only [pureReads, Option.some.injEq] at hr
  subst hr
  simp only [evVal, hop] at h
  split at h
  ·rename_i te he
   split at h
   ·rename_i lx n hx hi
    split at h
    ·rename_i xs hxs
     split at h
     ·simp at h
     ·rename_i hl
      obtain ⟨h0, h⟩ := Y1h h
      simp only [Option.some.injEq] at h
      rw [Y4 hq] at h
      refine ⟨_, h.symm, fun env2 ha hq2 => ?_⟩
      have h1 := ha.mono (S' := opReads env x) (fun k hk => List.mem_append_left _ hk)
      have h2 := ha.mono (S' := opReads env y) (fun k hk => List.mem_append_right _ hk)
      exact ⟨by simp only [evVal, hop]; rw [he]; simp only; rw [h1.rd, h2.rd, hx, hi]; simp only; rw [hxs]; simp only; rw [if_neg hl, h0]; simp only [cond_true, Y4 hq2], by simp only [pureReads, h1.reads, h2.reads]⟩
    ·simp at h
   ·simp at h
  ·simp at h
 | index t x y =>
  rw [hop] at hr
  simp only [pureReads, Option.some.injEq] at hr
  subst hr
  simp only [evVal, hop] at h
  split at h
  ·rename_i s k n ht hs hi
   obtain ⟨b, hb, h⟩ := Option.bind_eq_some_iff.1 h
   simp only [Option.some.injEq] at h
   rw [Y4 hq] at h
   refine ⟨_, h.symm, fun env2 ha hq2 => ?_⟩
   have h1 := ha.mono (S' := opReads env x) (fun k hk => List.mem_append_left _ hk)
   have h2 := ha.mono (S' := opReads env y) (fun k hk => List.mem_append_right _ hk)
   exact ⟨by simp only [evVal, hop]; rw [h1.rd, h2.rd, ht, hs, hi]; simp only; rw [hb]; simp only [Option.bind_some, Y4 hq2], by simp only [pureReads, h1.reads, h2.reads]⟩
  ·simp at h
 | makeSlice t x y =>
  rw [hop] at hr
  simp only [pureReads, Option.some.injEq] at hr
  subst hr
  simp only [evVal, hop] at h
  split at h
  ·rename_i te n m he hl hc
   obtain ⟨h0, h⟩ := Y1h h
   simp only [Option.some.injEq] at h
   rw [Y4 hq] at h
   refine ⟨_, h.symm, fun env2 ha hq2 => ?_⟩
   have h1 := ha.mono (S' := opReads env x) (fun k hk => List.mem_append_left _ hk)
   have h2 := ha.mono (S' := opReads env y) (fun k hk => List.mem_append_right _ hk)
   exact ⟨by simp only [evVal, hop]; rw [h1.rd, h2.rd, he, hl, hc]; simp only; rw [h0]; simp only [cond_true, Y4 hq2], by simp only [pureReads, h1.reads, h2.reads]⟩
  ·simp at h
 | alloc e =>
  rw [hop] at hr
  simp only [pureReads, Option.some.injEq] at hr
  subst hr
  simp only [evVal, hop] at h
  split at h
  ·rename_i τ he
   simp only [Option.some.injEq] at h
   rw [Y4 hq] at h
   exact ⟨_, h.symm, fun env2 ha hq2 => ⟨by simp only [evVal, hop]; rw [he]; simp only [Y4 hq2], rfl⟩⟩
  ·rename_i he
   split at h
   ·rename_i hfn
    simp only [Option.some.injEq] at h
    rw [Y4 hq] at h
    exact ⟨_, h.symm, fun env2 ha hq2 => ⟨by simp only [evVal, hop]; rw [he]; simp only; rw [if_pos hfn]; simp only [Y4 hq2], rfl⟩⟩
   ·simp at h
 | makeFunc fn first captured =>
  rw [hop] at hr
  simp only [pureReads, Option.some.injEq] at hr
  subst hr
  cases fn with
  | func f =>
   simp only [evVal, hop] at h
   split at h
   ·rename_i hf
    split at h
    ·rename_i cs hc
     simp only [Option.some.injEq] at h
     rw [Y4 hq] at h
     refine ⟨_, h.symm, fun env2 ha hq2 => ?_⟩
     have hx : ∀ x ∈ captured.toList, Agree (opReads env x) env env2 := fun x hx => ha.mono (fun k hk => List.mem_flatMap.2 ⟨x, hx, hk⟩)
     have hm : ∀ l : List Operand, (∀ x ∈ l, Agree (opReads env x) env env2) -> l.mapM (fun x => match rd none env2 x with | .path r off => some (r, off) | _ => none) = l.mapM (fun x => match rd none env x with | .path r off => some (r, off) | _ => none) := by
      intro l hl
      induction l with
      | nil => rfl
      | cons x l ih =>
       rw [List.mapM_cons, List.mapM_cons, ih (fun y hy => hl y (List.mem_cons_of_mem _ hy)), (hl x List.mem_cons_self).rd]
     have hf2 : ∀ l : List Operand, (∀ x ∈ l, Agree (opReads env x) env env2) -> l.flatMap (opReads env2) = l.flatMap (opReads env) := by
      intro l hl
      induction l with
      | nil => rfl
      | cons x l ih => rw [List.flatMap_cons, List.flatMap_cons, ih (fun y hy => hl y (List.mem_cons_of_mem _ hy)), (hl x List.mem_cons_self).reads]
     refine ⟨?_, by simp only [pureReads, hf2 _ hx]⟩
     simp only [evVal, hop]
     rw [if_pos hf]
     erw [(hm _ hx).trans hc]
     simp only [Y4 hq2]
    ·simp at h
   ·simp at h
  | _ => simp [evVal, hop] at h
 | _ => rw [hop] at hr; simp [pureReads] at hr
end
end Go.FP

namespace Go.FP
open Go.RowKit
def Mode.isRo : Mode -> Bool
 | .at_ .ro => true
 | _ => false
def inert (env : Env) : Operand -> Bool
 | .tmp s => match get env s with
  | .con k ls => k.plain && ls.all (fun l => l.m.isRo)
  | .undef => false
  | .grow _ _ _ _ _ => false
  | .junk => false
  | _ => true
 | _ => true
theorem Y2w {m : Mode} (h : m.isRo = true) : m = .at_ .ro := by
 cases m with
 | at_ lv => cases lv <;> simp [Mode.isRo] at h ⊢
 | _ => simp [Mode.isRo] at h
theorem Y57 : ∀ {ls : List Leaf} {env : Env}, ls.all (fun l => l.m.isRo) = true -> freezeAll ls env = env
 | [], env, _ => rfl
 | l :: ls, env, h => by
  simp only [List.all_cons, Bool.and_eq_true] at h
  have hm := Y2w h.1
  unfold freezeAll
  rw [hm]
  exact Y57 h.2
theorem Ydl {env : Env} {s q : Nat} {k : Kind} {ls : List Leaf} (hg : get env s = .con k ls) (hl : ls.all (fun l => l.m.isRo) = true) : pull s q env = env := by
 unfold pull
 rw [hg]
 simp only [AV.leaf?]
 split
 ·rename_i t x r j hq
  have := Y2w (List.all_eq_true.1 hl _ (Yc hq))
  simp at this
 ·rfl
theorem Y9j {env : Env} {s : Nat} {k : Kind} {ls : List Leaf} (hg : get env s = .con k ls) (hl : ls.all (fun l => l.m.isRo) = true) : ∀ n, pulls s n env = env
 | 0 => rfl
 | n + 1 => by rw [pulls, Y9j hg hl n, Ydl hg hl]
theorem Ybm {env : Env} {s : Nat} {k : Kind} {ls : List Leaf} (hg : get env s = .con k ls) (hl : ls.all (fun l => l.m.isRo) = true) : pullAll (.tmp s) env = env := by
 simp only [pullAll, hg]
 split
 ·exact Y9j hg hl _
 ·rfl
theorem Y74 {ty : Option Ty} {env : Env} {s : Nat} {k : Kind} {ls : List Leaf} (hg : get env s = .con k ls) (hk : k.plain = true) (hl : ls.all (fun l => l.m.isRo) = true) : takeIn ty env (.tmp s) = some (env, .con k ls) := by
 rw [takeIn, Ybm hg hl]
 simp only [takeIn0, hg, hk, if_true, Y57 hl]
 have h1 : ls.all (fun l => l.m.settled) = true := List.all_eq_true.2 fun l hl' => by rw [Y2w (List.all_eq_true.1 hl l hl')]; rfl
 have h2 : ls.any (fun l => l.m.own) = false := by
  cases ha : ls.any (fun l => l.m.own) with
  | false => rfl
  | true =>
   obtain ⟨l, hl', ho⟩ := List.any_eq_true.1 ha
   rw [Y2w (List.all_eq_true.1 hl l hl')] at ho
   simp [Mode.own] at ho
 rw [if_pos (by exact ⟨trivial, h1⟩), h2]
 rfl
theorem Yy {env env2 : Env} {x : Operand} (h : inert env x = true) (ha : Agree (opReads env x) env env2) (ty : Option Ty) : ∃ av, takeIn ty env x = some (env, av) /\ takeIn ty env2 x = some (env2, av) /\ inert env2 x = true := by
 cases x with
 | tmp s =>
  have hg2 := ha.2 s (by simp [opReads])
  cases hg : get env s with
  | con k ls =>
   simp only [inert, hg, Bool.and_eq_true] at h
   rw [hg] at hg2
   exact ⟨_, Y74 hg h.1 h.2, Y74 hg2 h.1 h.2, by simp only [inert, hg2, Bool.and_eq_true]; exact h⟩
  | undef => simp [inert, hg] at h
  | grow _ _ _ _ _ => simp [inert, hg] at h
  | junk => simp [inert, hg] at h
  | skip => rw [hg] at hg2; exact ⟨.skip, by simp only [takeIn, pullAll, takeIn0, hg], by simp only [takeIn, pullAll, takeIn0, hg2], by simp only [inert, hg2]⟩
  | path r off => rw [hg] at hg2; exact ⟨.path r off, by simp only [takeIn, pullAll, takeIn0, hg], by simp only [takeIn, pullAll, takeIn0, hg2], by simp only [inert, hg2]⟩
  | eptr ls wr => rw [hg] at hg2; exact ⟨.eptr ls wr, by simp only [takeIn, pullAll, takeIn0, hg], by simp only [takeIn, pullAll, takeIn0, hg2], by simp only [inert, hg2]⟩
  | fptr f caps => rw [hg] at hg2; exact ⟨.fptr f caps, by simp only [takeIn, pullAll, takeIn0, hg], by simp only [takeIn, pullAll, takeIn0, hg2], by simp only [inert, hg2]⟩
  | cloS f caps => rw [hg] at hg2; exact ⟨.cloS f caps, by simp only [takeIn, pullAll, takeIn0, hg], by simp only [takeIn, pullAll, takeIn0, hg2], by simp only [inert, hg2]⟩
  | cloR f caps => rw [hg] at hg2; exact ⟨.cloR f caps, by simp only [takeIn, pullAll, takeIn0, hg], by simp only [takeIn, pullAll, takeIn0, hg2], by simp only [inert, hg2]⟩
  | clo f caps => rw [hg] at hg2; exact ⟨.clo f caps, by simp only [takeIn, pullAll, takeIn0, hg], by simp only [takeIn, pullAll, takeIn0, hg2], by simp only [inert, hg2]⟩
 | const v => exact ⟨_, rfl, rfl, rfl⟩
 | func f => exact ⟨_, rfl, rfl, rfl⟩
 | global g => exact ⟨_, rfl, rfl, rfl⟩
theorem Y2c {env env1 env2 : Env} {x : Operand} {τ : Ty} {ls : List Leaf} (h : inert env x = true) (ha : Agree (opReads env x) env env2) (ht : takeAs τ env x = some (env1, ls)) : env1 = env /\ takeAs τ env2 x = some (env2, ls) /\ inert env2 x = true := by
 obtain ⟨av, h1, h2, h3⟩ := Yy h ha (some τ)
 unfold takeAs at ht ⊢
 rw [h1] at ht
 rw [h2]
 split at ht
 ·rename_i e k ls' heq
  simp only [Option.some.injEq, Prod.mk.injEq] at heq
  obtain ⟨rfl, rfl⟩ := heq
  split at ht
  ·rename_i hc
   simp only [Option.some.injEq, Prod.mk.injEq] at ht
   obtain ⟨rfl, rfl⟩ := ht
   exact ⟨rfl, by simp only; rw [if_pos hc], h3⟩
  ·simp at ht
 ·simp at ht
theorem Y2d {t : Ty} {env2 : Env} : ∀ {parts : List (Nat × Operand)} {env env' : Env} {n : Nat} {xs : List t.D} {dp : Bool}, (∀ p ∈ parts, inert env p.2 = true) -> (∀ p ∈ parts, Agree (opReads env p.2) env env2) -> elemParts t env n parts = some (env', xs, dp) -> env' = env /\ elemParts t env2 n parts = some (env2, xs, dp)
 | [], env, env', n, xs, dp, _, _, h => by
  simp only [elemParts, Option.some.injEq, Prod.mk.injEq] at h ⊢
  exact ⟨h.1.symm, trivial, h.2⟩
 | (i, x) :: parts, env, env', n, xs, dp, hi, ha, h => by
  simp only [elemParts] at h ⊢
  split at h
  ·rename_i hin
   rw [if_pos hin]
   cases hta : takeAs t env x with
   | none => rw [hta] at h; simp at h
   | some q =>
    obtain ⟨env1, l⟩ := q
    obtain ⟨e1, k2, _⟩ := Y2c (hi _ List.mem_cons_self) (ha _ List.mem_cons_self) hta
    subst e1
    rw [hta] at h
    rw [k2]
    simp only at h ⊢
    split at h
    ·rename_i v hv
     split at h
     ·rename_i e2 vs d hrec
      obtain ⟨rfl, k3⟩ := Y2d (fun p hp => hi p (List.mem_cons_of_mem _ hp)) (fun p hp => ha p (List.mem_cons_of_mem _ hp)) hrec
      rw [k3]
      simp only [Option.some.injEq, Prod.mk.injEq] at h ⊢
      exact ⟨h.1.symm, trivial, h.2⟩
     ·simp at h
    ·simp at h
  ·simp at h
theorem Y28 {T : Tab} {t : TypeId} {env2 : Env} : ∀ {parts : List (Nat × Operand)} {env env' : Env} {ls ls' : List Leaf}, (∀ p ∈ parts, inert env p.2 = true) -> (∀ p ∈ parts, Agree (opReads env p.2) env env2) -> buildParts T t env ls parts = some (env', ls') -> env' = env /\ buildParts T t env2 ls parts = some (env2, ls')
 | [], env, env', ls, ls', _, _, h => by
  simp only [buildParts, Option.some.injEq, Prod.mk.injEq] at h ⊢
  exact ⟨h.1.symm, trivial, h.2⟩
 | (f, x) :: parts, env, env', ls, ls', hi, ha, h => by
  simp only [buildParts] at h ⊢
  split at h
  ·rename_i off τ hf
   cases hta : takeAs τ env x with
   | none => rw [hta] at h; simp at h
   | some q =>
    obtain ⟨env1, l⟩ := q
    obtain ⟨e1, k2, _⟩ := Y2c (hi _ List.mem_cons_self) (ha _ List.mem_cons_self) hta
    subst e1
    rw [hta] at h
    rw [k2]
    simp only at h ⊢
    split at h
    ·rename_i hle
     rw [if_pos hle]
     exact Y28 (fun p hp => hi p (List.mem_cons_of_mem _ hp)) (fun p hp => ha p (List.mem_cons_of_mem _ hp)) h
    ·simp at h
  ·simp at h
theorem Yd1 (ty : Option Ty) (env : Env) (x : Operand) : ∀ q ∈ rootsOf (rd ty env x), q ∈ opReads env x := by
 have typed : ∀ ty v, rootsOf (constAV ty v) = [] := by
  intro ty v
  unfold constAV
  split
  ·rfl
  ·split
   ·split <;> rfl
   ·rfl
 cases x with
 | tmp s =>
  intro q hq
  simp only [rd] at hq
  cases hg : get env s with
  | con k ls => rw [hg] at hq; cases k <;> simp [rootsOf] at hq ⊢ <;> simp [opReads, hq]
  | path r off => rw [hg] at hq; simp [rootsOf] at hq; simp [opReads, hg, rootsOf, hq]
  | clo f cs => rw [hg] at hq; simp only [opReads, hg]; exact List.mem_cons_of_mem _ hq
  | _ => rw [hg] at hq; simp [rootsOf] at hq
 | const v =>
  intro q hq
  simp only [rd] at hq
  split at hq <;> first | (simp [rootsOf] at hq; done) | (rw [typed] at hq; simp at hq)
 | func f => intro q hq; simp [rd, rootsOf] at hq
 | global g => intro q hq; simp [rd, rootsOf] at hq
theorem Y58 {env env2 : Env} : ∀ {cs : List (Nat × Nat)} {ts : List Ty}, (∀ p ∈ cs, get env2 p.1 = get env p.1) -> capsOf env2 cs ts = capsOf env cs ts
 | [], [], _ => rfl
 | [], t :: ts, _ => rfl
 | p :: cs, [], _ => rfl
 | (q, off) :: cs, t :: ts, h => by
  have h1 := h (q, off) List.mem_cons_self
  simp only [capsOf, Y58 (ts := ts) (fun p hp => h p (List.mem_cons_of_mem _ hp))]
  have : ptrOf env2 t q off = ptrOf env t q off := by
   unfold ptrOf
   have h1 : get env2 q = get env q := h1
   rw [h1]
  rw [this]
theorem Y83 {caps : FuncId -> List Ty} {env env2 : Env} : ∀ {ps : List PTy} {vs : List AV}, (∀ v ∈ vs, ∀ q ∈ rootsOf v, get env2 q = get env q) -> RVs caps env2 ps vs = RVs caps env ps vs
 | [], [], _ => rfl
 | [], v :: vs, _ => rfl
 | p :: ps, [], _ => rfl
 | p :: ps, v :: vs, h => by
  have h1 := h v List.mem_cons_self
  have : RVof caps env2 p v = RVof caps env p v := by
   unfold RVof
   split
   ·rfl
   ·rename_i t q off
    have h2 : get env2 q = get env q := h1 q (by simp [rootsOf])
    unfold ptrOf
    rw [h2]
   ·rfl
   ·rfl
   ·rename_i f cs
    rw [Y58 (fun p hp => h1 p.1 (by simp only [rootsOf]; exact List.mem_map.2 ⟨p, hp, rfl⟩))]
   ·rfl
  simp only [RVs, this, Y83 (ps := ps) (fun v hv => h v (List.mem_cons_of_mem _ hv))]
theorem Y59 {env env2 : Env} : ∀ {ps : List PTy} {xs : List Operand}, (∀ x ∈ xs, Agree (opReads env x) env env2) -> rdArgs env2 ps xs = rdArgs env ps xs
 | [], xs, _ => by cases xs <;> rfl
 | p :: ps, [], _ => rfl
 | p :: ps, x :: xs, h => by
  simp only [rdArgs]
  rw [(h x List.mem_cons_self).rd, Y59 (fun y hy => h y (List.mem_cons_of_mem _ hy))]
theorem Y5a {env : Env} : ∀ {ps : List PTy} {xs : List Operand}, ∀ v ∈ rdArgs env ps xs, ∀ q ∈ rootsOf v, ∃ x ∈ xs, q ∈ opReads env x
 | [], xs, v, hv => by cases xs <;> simp [rdArgs] at hv
 | p :: ps, [], v, hv => by simp [rdArgs] at hv
 | p :: ps, x :: xs, v, hv => by
  simp only [rdArgs, List.mem_cons] at hv
  intro q hq
  rcases hv with rfl | hv
  ·exact ⟨x, List.mem_cons_self, Yd1 _ _ _ q hq⟩
  ·obtain ⟨y, hy, h⟩ := Y5a v hv q hq
   exact ⟨y, List.mem_cons_of_mem _ hy, h⟩
section
variable {T : Tab} {sig : FuncId -> Option Sig} {caps : FuncId -> List Ty} {orc : Orc}
def freshSig (sig : FuncId -> Option Sig) (f : FuncId) : Bool := match sig f with
 | some sg => (sg.box.isNone && sg.newb.isNone) && (!sg.muts && (!sg.own && allFresh sg.results))
 | none => false
theorem Y62 {d : Nat} {f : FuncId} {args : List Operand} {extra : List AV} {env e1 env2 : Env} (hf : freshSig sig f = true) (hq : (get env d).quiet = true) (h : call1 sig caps orc (some d) f args extra env some = some e1) :
  ∃ v, e1 = put env d v /\ ∀ env2, (∀ x ∈ args, Agree (opReads env x) env env2) -> (∀ v ∈ extra, ∀ q ∈ rootsOf v, get env2 q = get env q) -> (get env2 d).quiet = true -> call1 sig caps orc (some d) f args extra env2 some = some (put env2 d v) := by
 unfold call1 at h
 split at h
 ·simp at h
 ·rename_i sg hsg
  have hmf0 : (sg.box = none /\ sg.newb = none) /\ sg.muts = false /\ sg.own = false /\ allFresh sg.results = true := by simpa [freshSig, hsg] using hf
  obtain ⟨hbx, hmf⟩ := hmf0
  have haf := hmf.2.2
  simp only [hbx.1, hbx.2] at h
  split at h
  ·rename_i hm
   rw [if_neg (by rw [hmf.2.1]; simp)] at h
   split at h
   ·rename_i hc
    split at h
    ·simp at h
    ·rename_i rvs hrv
     split at h
     ·simp at h
     rename_i q hq'
     obtain ⟨xs, hxs, h⟩ := Option.bind_eq_some_iff.1 h
     split at h
     ·simp at h
     ·rename_i v hv
      simp only [Option.some.injEq] at h
      rw [Y4 hq] at h
      refine ⟨v, h.symm, fun env2 ha he hq2 => ?_⟩
      have hrd := Y59 (ps := sg.params) ha
      have hrv2 : RVs caps env2 sg.params (rdArgs env sg.params args ++ extra) = some rvs := by
       rw [Y83, hrv]
       intro v hv q hq
       rcases List.mem_append.1 hv with hv | hv
       ·obtain ⟨x, hx, hqx⟩ := Y5a v hv q hq
        exact (ha x hx).2 q hqx
       ·exact he v hv q hq
      unfold call1
      rw [hsg]
      simp only [hbx.1, hbx.2, hm, hrd]
      rw [if_neg (by rw [hmf.2.1]; simp)]
      rw [if_pos hc, hrv2]
      simp only [hq', hxs, Option.bind_some, hv]
      rw [if_pos haf, Y4 hq2]
   ·simp at h
  ·rename_i hm; rw [hmf.1] at hm; simp at hm
end
end Go.FP

namespace Go.FP
open Go.RowKit
def allReads (env : Env) (xs : List Operand) : List Nat := xs.flatMap (opReads env)
def footVal (sig : FuncId -> Option Sig) (env : Env) (d : Nat) (o : Oper) : Foot1 :=
 if (get env d).quiet then
  match pureReads env o.op with
  | some Rd => some (d, Rd)
  | none => match o.op with
   | .assign x => if inert env x then some (d, opReads env x) else none
   | .box _ x => if inert env x then some (d, opReads env x) else none
   | .build _ ps => if ps.toList.all (fun p => inert env p.2) then some (d, allReads env (ps.toList.map (·.2))) else none
   | .buildSlice _ _ ps => if ps.toList.all (fun p => inert env p.2) then some (d, allReads env (ps.toList.map (·.2))) else none
   | .slice _ x lo hi _ => if inert env x then some (d, opReads env x ++ allReads env (lo.toList ++ hi.toList)) else none
   | .extract x _ => match x with
    | .tmp s => match get env s with
     | .con (.tup _) ls => if ls.all (fun l => !l.m.own) then some (d, [s]) else none
     | _ => none
    | _ => none
   | .call c => match c.callee with
    | .value (.func f) => if freshSig sig f then some (d, allReads env c.args.toList) else none
    | .value (.tmp t) => match get env t with
     | .clo f _ => if freshSig sig f then some (d, opReads env (.tmp t) ++ allReads env c.args.toList) else none
     | _ => none
    | .builtin .len => some (d, allReads env c.args.toList)
    | .builtin .max => some (d, allReads env c.args.toList)
    | .builtin .min => some (d, allReads env c.args.toList)
    | _ => none
   | _ => none
 else none
theorem Yk {env env2 : Env} : ∀ {xs : List Operand}, Agree (allReads env xs) env env2 -> (∀ x ∈ xs, Agree (opReads env x) env env2) /\ allReads env2 xs = allReads env xs
 | [], _ => ⟨by simp, rfl⟩
 | x :: xs, h => by
  have h1 := h.mono (S' := opReads env x) (fun k hk => by simp only [allReads, List.flatMap_cons]; exact List.mem_append_left _ hk)
  have h2 := h.mono (S' := allReads env xs) (fun k hk => by simp only [allReads, List.flatMap_cons]; exact List.mem_append_right _ hk)
  obtain ⟨k1, k2⟩ := Yk h2
  refine ⟨fun y hy => ?_, ?_⟩
  ·rcases List.mem_cons.1 hy with rfl | hy
   ·exact h1
   ·exact k1 y hy
  ·simp only [allReads, List.flatMap_cons] at k2 ⊢
   rw [h1.reads, k2]
theorem Y75 {env : Env} {x : Operand} (h : inert env x = true) : nestB env x = false := by
 cases x with
 | tmp s =>
  cases hg : get env s with
  | con k ls =>
   simp only [inert, hg, Bool.and_eq_true] at h
   have : (ls.any fun l => l.m.nested) = false := by
    rw [List.any_eq_false]
    intro l hl
    rw [Y2w (List.all_eq_true.1 h.2 l hl)]
    simp [Mode.nested]
   cases k with
   | box e => simp [Kind.plain] at h
   | _ => simp [nestB, hg, this]
  | _ => simp [nestB, hg]
 | _ => rfl
theorem Y5b {env env2 : Env} : ∀ {lo : Option Operand}, (∀ x ∈ lo.toList, Agree (opReads env x) env env2) -> optInt env2 lo = optInt env lo
 | none, _ => rfl
 | some x, h => by simp only [optInt]; rw [(h x (by simp)).rd]
theorem Y5c {env : Env} {x : Operand} {ty : Option Ty} {lx : Leaf} (h : inert env x = true) (hx : rd ty env x = .con .val [lx]) (e : Env) : freezeAll [lx] e = e := by
 have hm : lx.m.settled = true := by
  cases x with
  | tmp s =>
   cases hg : get env s with
   | con k ls =>
    simp only [inert, hg, Bool.and_eq_true] at h
    cases k with
    | val =>
     simp only [rd, hg, AV.con.injEq, true_and] at hx
     cases ls with
     | nil => simp [borrowFrom] at hx
     | cons l ls =>
      simp only [borrowFrom, List.cons.injEq] at hx
      have hl : l.m.isRo = true := List.all_eq_true.1 h.2 l (by simp)
      rw [Y2w hl] at hx
      simp only [Mode.own, Bool.false_eq_true, if_false] at hx
      rw [<- hx.1, Y2w hl]
      rfl
    | agg => simp [rd, hg] at hx
    | tup sh => simp [rd, hg] at hx
    | box e => simp [rd, hg] at hx
   | _ => simp [rd, hg] at hx
  | const v => exact Yw (ty := ty) (env := env) (env' := env) (x := .const v) (k := .val) (ls := [lx]) (by rw [<- hx]; rfl) lx (by simp)
  | func f => simp [rd] at hx
  | global g => simp [rd] at hx
 simp only [freezeAll]
 split
 ·rename_i hb; rw [hb] at hm; simp [Mode.settled] at hm
 ·rfl
section
variable {T : Tab} {sig : FuncId -> Option Sig} {caps : FuncId -> List Ty} {orc : Orc}
theorem Y9k {o : Oper} {d t : Nat} {env e1 : Env} {Rd : List Nat} (hf : footVal sig env d o = some (t, Rd)) (h : evVal T sig caps orc d o env some = some e1) :
  t = d /\ ∃ v, e1 = put env d v /\ ∀ env2, Agree (d :: Rd) env env2 -> evVal T sig caps orc d o env2 some = some (put env2 d v) /\ footVal sig env2 d o = some (d, Rd) := by
 unfold footVal at hf
 split at hf
 ·rename_i hq
  have quiet2 : ∀ {env2 : Env} {S : List Nat}, Agree (d :: S) env env2 -> (get env2 d).quiet = true := fun ha => by rw [ha.2 d List.mem_cons_self]; exact hq
  have tail : ∀ {env2 : Env} {S : List Nat}, Agree (d :: S) env env2 -> Agree S env env2 := fun ha => ha.mono (fun k hk => List.mem_cons_of_mem _ hk)
  cases hp : pureReads env o.op with
  | some Rd0 =>
   rw [hp] at hf
   simp only [Option.some.injEq, Prod.mk.injEq] at hf
   obtain ⟨rfl, rfl⟩ := hf
   obtain ⟨v, e, k⟩ := Yc7 hp hq h
   refine ⟨rfl, v, e, fun env2 ha => ?_⟩
   obtain ⟨k1, k2⟩ := k env2 (tail ha) (quiet2 ha)
   exact ⟨k1, by unfold footVal; rw [if_pos (quiet2 ha), k2]⟩
  | none =>
   rw [hp] at hf
   simp only at hf
   have none2 : ∀ env2 : Env, pureReads env2 o.op = none := by
    intro env2
    cases hop : o.op <;> rw [hop] at hp <;> simp [pureReads] at hp ⊢
   cases hop : o.op with
   | assign x =>
    rw [hop] at hf
    simp only at hf
    split at hf
    ·rename_i hi
     simp only [Option.some.injEq, Prod.mk.injEq] at hf
     obtain ⟨rfl, rfl⟩ := hf
     simp only [evVal, hop] at h
     obtain ⟨av, k1, _, _⟩ := Yy hi (env2 := env) ⟨rfl, fun _ _ => rfl⟩ (T.ty o.type)
     rw [Y75 hi, k1] at h
     simp only [Bool.false_eq_true, if_false, Option.some.injEq] at h
     rw [Y4 hq] at h
     refine ⟨rfl, av, h.symm, fun env2 ha => ?_⟩
     obtain ⟨av', k1', k2', k3'⟩ := Yy hi (tail ha) (T.ty o.type)
     rw [k1] at k1'
     simp only [Option.some.injEq, Prod.mk.injEq] at k1'
     refine ⟨by simp only [evVal, hop]; rw [Y75 k3', k2']; simp only [Bool.false_eq_true, if_false]; rw [Y4 (quiet2 ha), <- k1'.2], ?_⟩
     unfold footVal
     rw [if_pos (quiet2 ha), none2 env2]
     simp only [hop, k3', if_true, (tail ha).reads]
    ·simp at hf
   | box e x =>
    rw [hop] at hf
    simp only at hf
    split at hf
    ·rename_i hi
     simp only [Option.some.injEq, Prod.mk.injEq] at hf
     obtain ⟨rfl, rfl⟩ := hf
     simp only [evVal, hop] at h
     split at h
     ·rename_i τ he
      split at h
      ·rename_i env' ls hta
       obtain ⟨rfl, _, _⟩ := Y2c hi (env2 := env) ⟨rfl, fun _ _ => rfl⟩ hta
       simp only [Option.some.injEq] at h
       rw [Y4 hq] at h
       refine ⟨rfl, _, h.symm, fun env2 ha => ?_⟩
       obtain ⟨_, k2', k3'⟩ := Y2c hi (tail ha) hta
       refine ⟨by simp only [evVal, hop]; rw [he]; simp only; rw [k2']; simp only; rw [Y4 (quiet2 ha)], ?_⟩
       unfold footVal
       rw [if_pos (quiet2 ha), none2 env2]
       simp only [hop, k3', if_true, (tail ha).reads]
      ·simp at h
     ·simp at h
    ·simp at hf
   | build t' ps =>
    rw [hop] at hf
    simp only at hf
    split at hf
    ·rename_i hi
     simp only [Option.some.injEq, Prod.mk.injEq] at hf
     obtain ⟨rfl, rfl⟩ := hf
     have hi' : ∀ p ∈ ps.toList, inert env p.2 = true := fun p hp => List.all_eq_true.1 hi p hp
     simp only [evVal, hop] at h
     split at h
     ·rename_i τ he
      split at h
      ·rename_i hag
       split at h
       ·rename_i env' ls hb
        obtain ⟨rfl, _⟩ := Y28 hi' (env2 := env) (fun _ _ => ⟨rfl, fun _ _ => rfl⟩) hb
        simp only [Option.some.injEq] at h
        rw [Y4 hq] at h
        refine ⟨rfl, _, h.symm, fun env2 ha => ?_⟩
        obtain ⟨a1, a2⟩ := Yk (tail ha)
        have a1' : ∀ p ∈ ps.toList, Agree (opReads env' p.2) env' env2 := fun p hp => a1 _ (List.mem_map.2 ⟨p, hp, rfl⟩)
        obtain ⟨_, k2⟩ := Y28 hi' a1' hb
        have hi2 : ps.toList.all (fun p => inert env2 p.2) = true := List.all_eq_true.2 fun p hp => (Yy (hi' p hp) (a1' p hp) none).choose_spec.2.2
        refine ⟨by simp only [evVal, hop]; rw [he]; simp only; rw [if_pos hag, k2]; simp only; rw [Y4 (quiet2 ha)], ?_⟩
        unfold footVal
        rw [if_pos (quiet2 ha), none2 env2]
        simp only [hop, hi2, if_true, a2]
       ·simp at h
      ·simp at h
     ·simp at h
    ·simp at hf
   | buildSlice t' n ps =>
    rw [hop] at hf
    simp only at hf
    split at hf
    ·rename_i hi
     simp only [Option.some.injEq, Prod.mk.injEq] at hf
     obtain ⟨rfl, rfl⟩ := hf
     have hi' : ∀ p ∈ ps.toList, inert env p.2 = true := fun p hp => List.all_eq_true.1 hi p hp
     simp only [evVal, hop] at h
     split at h
     ·rename_i te he
      split at h
      ·rename_i hc
       split at h
       ·rename_i env' xs dp hb
        obtain ⟨rfl, _⟩ := Y2d hi' (env2 := env) (fun _ _ => ⟨rfl, fun _ _ => rfl⟩) hb
        simp only [Option.some.injEq] at h
        rw [Y4 hq] at h
        refine ⟨rfl, _, h.symm, fun env2 ha => ?_⟩
        obtain ⟨a1, a2⟩ := Yk (tail ha)
        have a1' : ∀ p ∈ ps.toList, Agree (opReads env' p.2) env' env2 := fun p hp => a1 _ (List.mem_map.2 ⟨p, hp, rfl⟩)
        obtain ⟨_, k2⟩ := Y2d hi' a1' hb
        have hi2 : ps.toList.all (fun p => inert env2 p.2) = true := List.all_eq_true.2 fun p hp => (Yy (hi' p hp) (a1' p hp) none).choose_spec.2.2
        refine ⟨by simp only [evVal, hop]; rw [he]; simp only; rw [if_pos hc, k2]; simp only; rw [Y4 (quiet2 ha)], ?_⟩
        unfold footVal
        rw [if_pos (quiet2 ha), none2 env2]
        simp only [hop, hi2, if_true, a2]
       ·simp at h
      ·simp at h
     ·simp at h
    ·simp at hf
   | slice t' x lo hi mx =>
    rw [hop] at hf
    simp only at hf
    split at hf
    ·rename_i hin
     simp only [Option.some.injEq, Prod.mk.injEq] at hf
     obtain ⟨rfl, rfl⟩ := hf
     have key : ∀ env2, Agree (d :: (opReads env x ++ allReads env (lo.toList ++ hi.toList))) env env2 -> footVal sig env2 d o = some (d, opReads env x ++ allReads env (lo.toList ++ hi.toList)) /\ (∀ ty, rd ty env2 x = rd ty env x) /\ optInt env2 lo = optInt env lo /\ optInt env2 hi = optInt env hi := fun env2 ha => by
      have a0 := (tail ha).mono (S' := opReads env x) (fun k hk => List.mem_append_left _ hk)
      obtain ⟨a1, a2⟩ := Yk ((tail ha).mono (fun k hk => List.mem_append_right _ hk))
      obtain ⟨_, _, _, a3⟩ := Yy hin a0 none
      refine ⟨?_, fun ty => a0.rd ty, Y5b (fun y hy => a1 y (by simp at hy ⊢; simp [hy])), Y5b (fun y hy => a1 y (by simp at hy ⊢; simp [hy]))⟩
      unfold footVal
      rw [if_pos (quiet2 ha), none2 env2]
      simp only [hop, a3, if_true, a0.reads, a2]
     simp only [evVal, hop] at h
     split at h
     ·simp at h
     ·split at h
      ·rename_i va vb hva hvb
       split at h
       ·rename_i sx hsx
        split at h
        ·rename_i hty
         have hc : (decide (0 <= va.getD 0) && (decide (va.getD 0 <= vb.getD (sx.size : Int)) && decide (vb.getD (sx.size : Int) <= (sx.size : Int)))) = true := by
          cases hcc : (decide (0 <= va.getD 0) && (decide (va.getD 0 <= vb.getD (sx.size : Int)) && decide (vb.getD (sx.size : Int) <= (sx.size : Int)))) with
          | true => rfl
          | false => rw [hcc] at h; simp at h
         rw [hc] at h
         simp only [cond_true, Option.some.injEq] at h
         rw [Y4 hq] at h
         refine ⟨rfl, _, h.symm, fun env2 ha => ?_⟩
         obtain ⟨b1, b2, b3, b4⟩ := key env2 ha
         refine ⟨?_, b1⟩
         simp only [evVal, hop, b2, b3, b4, hva, hvb, hsx, hty, hc, cond_true]
         rw [Y4 (quiet2 ha)]
        ·simp at h
       ·rename_i hsx
        split at h
        ·rename_i te hte
         split at h
         ·rename_i lx hrd
          split at h
          ·rename_i xs has
           split at h
           ·simp at h
           ·rename_i hl
            have hc : (decide (0 <= va.getD 0) && (decide (va.getD 0 <= vb.getD (xs.length : Int)) && decide (vb.getD (xs.length : Int) <= (xs.length : Int)))) = true := by
             cases hcc : (decide (0 <= va.getD 0) && (decide (va.getD 0 <= vb.getD (xs.length : Int)) && decide (vb.getD (xs.length : Int) <= (xs.length : Int)))) with
             | true => rfl
             | false => rw [hcc] at h; simp at h
            rw [hc] at h
            simp only [cond_true, Option.some.injEq] at h
            rw [Y5c hin hrd, Y4 hq] at h
            refine ⟨rfl, _, h.symm, fun env2 ha => ?_⟩
            obtain ⟨b1, b2, b3, b4⟩ := key env2 ha
            refine ⟨?_, b1⟩
            simp only [evVal, hop, b2, b3, b4, hva, hvb, hsx, hte, hrd, has, hc, cond_true]
            rw [if_neg hl, Y5c hin hrd, Y4 (quiet2 ha)]
          ·simp at h
         ·simp at h
        ·simp at h
      ·simp at h
    ·simp at hf
   | extract x i =>
    rw [hop] at hf
    simp only at hf
    split at hf
    ·rename_i s
     split at hf
     ·rename_i sh ls hs
      split at hf
      ·rename_i hno
       simp only [Option.some.injEq, Prod.mk.injEq] at hf
       obtain ⟨rfl, rfl⟩ := hf
       simp only [evVal, hop, hs] at h
       split at h
       ·rename_i off agg n ho
        have hany : (takeLs n (dropLs off ls)).any (fun l => l.m.own) = false := by
         cases ha : (takeLs n (dropLs off ls)).any (fun l => l.m.own) with
         | false => rfl
         | true =>
          obtain ⟨l, hl, hlo⟩ := List.any_eq_true.1 ha
          rw [Yp, Ys] at hl
          have := List.all_eq_true.1 hno l (List.mem_of_mem_drop (List.mem_of_mem_take hl))
          rw [hlo] at this
          simp at this
        split at h
        ·rename_i hlive
         simp only [hany, Bool.false_eq_true, if_false, Option.some.injEq] at h
         rw [Y4 hq] at h
         refine ⟨rfl, _, h.symm, fun env2 ha => ?_⟩
         have hs2 : get env2 s = .con (.tup sh) ls := (ha.2 s (by simp)).trans hs
         refine ⟨by simp only [evVal, hop, hs2, ho]; rw [if_pos hlive]; simp only [hany, Bool.false_eq_true, if_false]; rw [Y4 (quiet2 ha)], ?_⟩
         unfold footVal
         rw [if_pos (quiet2 ha), none2 env2]
         simp only [hop, hs2, hno, if_true]
        ·simp at h
       ·simp at h
      ·simp at hf
     ·simp at hf
    ·simp at hf
   | call cl =>
    rw [hop] at hf
    simp only at hf
    split at hf
    ·rename_i f hc
     split at hf
     ·rename_i hfr
      simp only [Option.some.injEq, Prod.mk.injEq] at hf
      obtain ⟨rfl, rfl⟩ := hf
      simp only [evVal, hop, hc] at h
      obtain ⟨v, e, k⟩ := Y62 (env2 := env) hfr hq h
      refine ⟨rfl, v, e, fun env2 ha => ?_⟩
      obtain ⟨a1, a2⟩ := Yk (tail ha)
      refine ⟨by simp only [evVal, hop, hc]; exact k env2 a1 (by simp) (quiet2 ha), ?_⟩
      unfold footVal
      rw [if_pos (quiet2 ha), none2 env2]
      simp only [hop, hc, hfr, if_true, a2]
     ·simp at hf
    ·rename_i t' hc
     split at hf
     ·rename_i f cs ht
      split at hf
      ·rename_i hfr
       simp only [Option.some.injEq, Prod.mk.injEq] at hf
       obtain ⟨rfl, rfl⟩ := hf
       simp only [evVal, hop, hc, ht] at h
       obtain ⟨v, e, k⟩ := Y62 (env2 := env) hfr hq h
       refine ⟨rfl, v, e, fun env2 ha => ?_⟩
       have hb := (tail ha).mono (S' := opReads env (.tmp t')) (fun k hk => List.mem_append_left _ hk)
       obtain ⟨a1, a2⟩ := Yk ((tail ha).mono (fun k hk => List.mem_append_right _ hk))
       have ht2 : get env2 t' = .clo f cs := (hb.2 t' (by simp [opReads])).trans ht
       refine ⟨by
        simp only [evVal, hop, hc, ht2]
        refine k env2 a1 (fun v hv q hq => ?_) (quiet2 ha)
        simp only [List.mem_map] at hv
        obtain ⟨p, hp, rfl⟩ := hv
        simp only [rootsOf, List.mem_singleton] at hq
        refine hb.2 q ?_
        simp only [opReads, ht, rootsOf]
        exact List.mem_cons_of_mem _ (List.mem_map.2 ⟨p, hp, hq.symm⟩), ?_⟩
       unfold footVal
       rw [if_pos (quiet2 ha), none2 env2]
       simp only [hop, hc, ht2, hfr, if_true, a2, hb.reads]
      ·simp at hf
     ·simp at hf
    ·rename_i hc
     simp only [Option.some.injEq, Prod.mk.injEq] at hf
     obtain ⟨rfl, rfl⟩ := hf
     have key : ∀ env2, Agree (d :: allReads env cl.args.toList) env env2 -> footVal sig env2 d o = some (d, allReads env cl.args.toList) := fun env2 ha => by
      unfold footVal
      rw [if_pos (quiet2 ha), none2 env2]
      simp only [hop, hc, (Yk (tail ha)).2]
     simp only [evVal, hop, hc] at h
     split at h
     ·rename_i x t' hargs htys
      have hx : ∀ env2, Agree (d :: allReads env cl.args.toList) env env2 -> Agree (opReads env x) env env2 := fun env2 ha => (Yk (tail ha)).1 x (by rw [hargs]; simp)
      split at h
      ·rename_i s hs
       split at h
       ·rename_i ht
        simp only [Option.some.injEq] at h
        rw [Y4 hq] at h
        exact ⟨rfl, _, h.symm, fun env2 ha => ⟨by simp only [evVal, hop, hc, hargs, htys]; rw [(hx env2 ha).rd, hs]; simp only; rw [ht]; simp only; rw [Y4 (quiet2 ha)], key env2 ha⟩⟩
       ·simp at h
      ·rename_i hs
       split at h
       ·rename_i e τ ht
        split at h
        ·rename_i lx hrd
         split at h
         ·rename_i xs hxs
          split at h
          ·rename_i hl
           simp only [Option.some.injEq] at h
           rw [Y4 hq] at h
           exact ⟨rfl, _, h.symm, fun env2 ha => ⟨by simp only [evVal, hop, hc, hargs, htys]; rw [(hx env2 ha).rd, hs]; simp only; rw [ht]; simp only; rw [(hx env2 ha).rd, hrd]; simp only; rw [hxs]; simp only; rw [if_pos hl, Y4 (quiet2 ha)], key env2 ha⟩⟩
          ·simp at h
         ·simp at h
        ·simp at h
       ·simp at h
     ·simp at h
    ·rename_i hc
     simp only [Option.some.injEq, Prod.mk.injEq] at hf
     obtain ⟨rfl, rfl⟩ := hf
     simp only [evVal, hop, hc] at h
     split at h
     ·rename_i x y hargs
      split at h
      ·rename_i k n k' m hx hy
       split at h
       ·rename_i hkk
        simp only [Option.some.injEq] at h
        rw [Y4 hq] at h
        refine ⟨rfl, _, h.symm, fun env2 ha => ?_⟩
        obtain ⟨a1, a2⟩ := Yk (tail ha)
        refine ⟨by simp only [evVal, hop, hc, hargs]; rw [(a1 x (by rw [hargs]; simp)).rd, (a1 y (by rw [hargs]; simp)).rd, hx, hy]; simp only; rw [if_pos hkk, Y4 (quiet2 ha)], ?_⟩
        unfold footVal
        rw [if_pos (quiet2 ha), none2 env2]
        simp only [hop, hc, a2]
       ·simp at h
      ·simp at h
     ·simp at h
    ·rename_i hc
     simp only [Option.some.injEq, Prod.mk.injEq] at hf
     obtain ⟨rfl, rfl⟩ := hf
     simp only [evVal, hop, hc] at h
     split at h
     ·rename_i x y hargs
      split at h
      ·rename_i k n k' m hx hy
       split at h
       ·rename_i hkk
        simp only [Option.some.injEq] at h
        rw [Y4 hq] at h
        refine ⟨rfl, _, h.symm, fun env2 ha => ?_⟩
        obtain ⟨a1, a2⟩ := Yk (tail ha)
        refine ⟨by simp only [evVal, hop, hc, hargs]; rw [(a1 x (by rw [hargs]; simp)).rd, (a1 y (by rw [hargs]; simp)).rd, hx, hy]; simp only; rw [if_pos hkk, Y4 (quiet2 ha)], ?_⟩
        unfold footVal
        rw [if_pos (quiet2 ha), none2 env2]
        simp only [hop, hc, a2]
       ·simp at h
      ·simp at h
     ·simp at h
    ·simp at hf
   | _ => rw [hop] at hf; simp at hf
 ·simp at hf
end
end Go.FP

namespace Go.FP
open Go.RowKit
structure DS where
 ts : List Nat := []
 bx : List Nat := []
def AV.free (TS : DS) (v : AV) : Bool := (v.refs.all fun q => !TS.ts.contains q.1 && !TS.bx.contains q.1) && v.ptrs.all fun q => !TS.ts.contains q
def AV.isBox : AV -> Bool
 | .con (.box _) _ => true
 | _ => false
def ownRow : AV -> Bool
 | .con .val [⟨.slice _ te, _, .at_ .dp⟩] => te.flatB
 | .con .val [⟨.slice _ te, _, .at_ .sh⟩] => te.flatB
 | _ => false
def isTmp (s : Nat) : Operand -> Bool
 | .tmp s' => Nat.beq s s'
 | _ => false
def footApp (T : Tab) (TS : DS) (env : Env) (d : Nat) (o : Oper) : Foot := match o.op with
 | .call c => match c.callee with
  | .builtin .append => match c.args.toList, c.argTypes.toList with
   | [.tmp ts, x], [t, _] => match elemAt T t with
    | some te => if (TS.ts.contains ts && !(Nat.beq d ts)) && ((get env d).quiet && ((ownRow (get env ts) && te.ty.flatB) && !isTmp ts x)) then some ([ts, d], opReads env x) else none
    | none => none
   | _, _ => none
  | _ => none
 | _ => none
def isAt : Mode -> Bool
 | .at_ _ => true
 | _ => false
def takes (TS : DS) (env : Env) (x : Operand) : Option (List Nat × List Nat) :=
 if inert env x then some ([], opReads env x) else match x with
  | .tmp s => match get env s with
   | .con k ls => if (TS.ts.contains s && k.plain) && (ls.all (fun l => isAt l.m) && ls.any fun l => l.m.own) then some ([s], []) else none
   | _ => none
  | _ => none
def gone (W : List Nat) : List AV := W.map fun _ => AV.undef
def takesAll (TS : DS) : Env -> List Operand -> Option (List Nat × List Nat)
 | _, [] => some ([], [])
 | env, x :: xs => match takes TS env x with
  | some (W, R) => match takesAll TS (puts env W (gone W)) xs with
   | some (W', R') => some (W ++ W', R ++ R')
   | none => none
  | none => none
def footTake (TS : DS) (env : Env) (d : Nat) (o : Oper) : Foot := if (get env d).quiet then match o.op with
  | .build _ ps => match takesAll TS env (ps.toList.map (·.2)) with
   | some (W, R) => if W.contains d then none else some (W ++ [d], R)
   | none => none
  | .buildSlice _ _ ps => match takesAll TS env (ps.toList.map (·.2)) with
   | some (W, R) => if W.contains d then none else some (W ++ [d], R)
   | none => none
  | _ => none
 else none
def footBox (sig : FuncId -> Option Sig) (TS : DS) (env : Env) (d : Nat) (o : Oper) : Foot := none
def footPtr (TS : DS) (env : Env) (d : Nat) (o : Oper) : Foot := none
def isBuild : Op -> Bool
 | .build _ _ => true
 | .buildSlice _ _ _ => true
 | _ => false
def Foot.reads (xs : List Nat) : Foot -> Foot
 | some (W, R) => some (W, xs ++ R)
 | none => none
def footRun (T : Tab) (sig : FuncId -> Option Sig) (TS : DS) (o : Oper) (env : Env) : Foot := match o.dst with
 | some d => if isBuild o.op then footTake TS env d o else match footPtr TS env d o with
  | some f => some f
  | none => match footVal sig env d o with
  | some (t, R) => some ([t], R)
  | none => match footBox sig TS env d o with
   | some f => some f
   | none => footApp T TS env d o
 | none => none
def footSkip (o : Oper) (env : Env) : Foot := match o.dst with
 | some d => if (get env d).quiet then some ([d], []) else none
 | none => none
def footG (T : Tab) (sig : FuncId -> Option Sig) (TS : DS) (ops : Array Oper) (o : Oper) (env : Env) : Foot := match o.guard with
 | none => footRun T sig TS o env
 | some (j, want) => match (ops[j]?).bind (·.dst) with
  | none => none
  | some dj => match get env dj with
   | .skip => Foot.reads [dj] (footSkip o env)
   | .con .val [⟨.bool, b, .at_ .ro⟩] => if b = want then Foot.reads [dj] (footRun T sig TS o env) else Foot.reads [dj] (footSkip o env)
   | _ => none
abbrev Fr (TS : DS) : Nat -> AV -> Prop := fun r v => v.free TS = true /\ (r ∈ TS.bx -> v.isBox = true)
theorem Yd2 {TS : DS} {s : Nat} (hs : s ∈ TS.ts) {v : AV} (h : v.free TS = true) : v.chg (killG s) = v := by
 simp only [AV.free, Bool.and_eq_true, List.all_eq_true, Bool.not_eq_true', List.contains_eq_mem, decide_eq_false_iff_not] at h
 obtain ⟨h1, h2⟩ := h
 have hne : ∀ q ∈ v.refs, q.1 ≠ s := fun q hq e => (h1 q hq).1 (e ▸ hs)
 have hne2 : ∀ q ∈ v.ptrs, q ≠ s := fun q hq e => h2 q hq (e ▸ hs)
 have leaf : ∀ l : Leaf, (∀ q ∈ l.refs, q.1 ≠ s) -> l.chg (killG s) = l := by
  intro l hl
  obtain ⟨t, x, m⟩ := l
  cases m with
  | at_ _ => rfl
  | dead => rfl
  | bor r j p => simp only [Leaf.chg, killG]; rw [if_neg (hl (r, j) (by simp [Leaf.refs]))]
 have leaves : ∀ ls : List Leaf, (∀ q ∈ ls.flatMap Leaf.refs, q.1 ≠ s) -> chgs (killG s) ls = ls := by
  intro ls
  induction ls with
  | nil => intro _; rfl
  | cons l ls ih =>
   intro hls
   rw [chgs, leaf l (fun q hq => hls q (by simp [hq])), ih (fun q hq => hls q (by rw [List.flatMap_cons]; exact List.mem_append_right _ hq))]
 cases v with
 | con k ls => simp only [AV.chg]; rw [leaves ls hne]
 | path r off => simp only [AV.chg]; rw [if_neg (by simpa [killG] using hne2 r (by simp [AV.ptrs]))]
 | eptr ls wr =>
  cases wr with
  | none => simp only [AV.chg]; rw [leaves ls (fun q hq => hne q (by simp only [AV.refs, List.append_nil]; exact hq))]
  | some w =>
   simp only [AV.chg]
   rw [leaves ls (fun q hq => hne q (by simp only [AV.refs]; exact List.mem_append_left _ hq)), if_neg (by simpa [killG] using hne (w.1, w.2.1) (by simp [AV.refs]))]
 | clo f caps =>
  simp only [AV.chg]
  rw [if_neg]
  simp only [List.any_eq_true, not_exists, not_and]
  intro q hq
  simpa [killG] using hne2 q.1 (by simp only [AV.ptrs, List.mem_map]; exact ⟨q, hq, rfl⟩)
 | fptr f caps =>
  simp only [AV.chg]
  rw [if_neg]
  simp only [List.any_eq_true, not_exists, not_and]
  intro q hq
  simpa [killG] using hne2 q hq
 | cloS f caps =>
  simp only [AV.chg]
  rw [if_neg]
  simp only [List.any_eq_true, not_exists, not_and]
  intro q hq
  simpa [killG] using hne2 q hq
 | grow r j i o l => simp only [AV.chg]; rw [if_neg (by simpa [killG] using hne (r, j) (by simp [AV.refs]))]
 | _ => rfl
theorem Y44 {TS : DS} {s : Nat} (hs : s ∈ TS.ts) : ∀ {env : Env}, (∀ r, (get env r).free TS = true) -> chgEnv (killG s) env = env
 | [], _ => rfl
 | v :: env, h => by
  show v.chg _ :: chgEnv _ env = _
  have h0 : v.free TS = true := h 0
  rw [Yd2 hs h0, Y44 hs (fun r => h (r + 1))]
theorem Ya8 {v : AV} (h : ownRow v = true) : ∃ e te xs lv, v = .con .val [⟨.slice e te, xs, .at_ lv⟩] /\ te.flatB = true /\ (lv = .dp \/ lv = .sh) := by
 unfold ownRow at h
 split at h
 ·exact ⟨_, _, _, _, rfl, h, .inl rfl⟩
 ·exact ⟨_, _, _, _, rfl, h, .inr rfl⟩
 ·simp at h
theorem Y9l {TS : DS} {env : Env} {ts : Nat} {e : TypeId} {te : Ty} {ss : List te.D} {lv : Lvl} (hJ : AllJ (Fr TS) env) (hts : ts ∈ TS.ts) (hg : get env ts = .con .val [⟨.slice e te, ss, .at_ lv⟩]) (hlv : lv = .dp \/ lv = .sh) (ty : Ty) :
  grabS ty env (.tmp ts) = some (put env ts .undef, .con .val [⟨.slice e te, ss, .at_ lv⟩]) := by
 have hp : pullAll (.tmp ts) env = env := by
  simp only [pullAll, hg, Kind.plain, if_true, List.length_singleton, pulls]
  unfold pull
  rw [hg]
  rfl
 have hown : (Mode.at_ lv).own = true := by rcases hlv with rfl | rfl <;> rfl
 have htake : takeIn (some ty) env (.tmp ts) = some (put env ts .undef, .con .val [⟨.slice e te, ss, .at_ lv⟩]) := by
  unfold takeIn
  rw [hp]
  simp only [takeIn0, hg, Kind.plain, if_true, freezeAll]
  rw [if_pos ⟨trivial, by simp [Mode.settled]⟩]
  simp only [List.any_cons, hown, Bool.true_or, if_true]
  unfold killRoot
  rw [Y44 hts (fun r => (hJ r).1)]
 unfold grabS
 simp only [hg]
 exact htake
theorem Y76 {TS : DS} {T : Tab} {env : Env} {d ts : Nat} {t : TypeId} {t' : TE} {x : Operand} {e : TypeId} {te : Ty} {ss : List te.D} {lv : Lvl} {lx : Leaf} {xs s' : List t'.ty.D} (he : elemAt T t = some t') (hfl : t'.ty.flatB = true) (hJ : AllJ (Fr TS) env) (hts : ts ∈ TS.ts) (hd : d ≠ ts) (hq : (get env d).quiet = true) (hg : get env ts = .con .val [⟨.slice e te, ss, .at_ lv⟩]) (hlv : lv = .dp \/ lv = .sh)
  (hrd : rd (some (.slice t'.id t'.ty)) env x = .con .val [lx]) (has : lx.as (.slice t'.id t'.ty) = some xs) (hl : lx.m.live = true) (has2 : (⟨.slice e te, ss, .at_ lv⟩ : Leaf).as (.slice t'.id t'.ty) = some s') :
  append1 T (some d) t (.tmp ts) x env some = appendTo t' lv s' xs fun l => some (puts env [ts, d] [.undef, .con .val [l]]) := by
 have hq2 : (get (put env ts .undef) d).quiet = true := by
  rw [Y1l]
  split
  ·rfl
  ·exact hq
 unfold append1
 simp only [he, hfl, if_true, hrd, has, hl]
 unfold appendS
 rw [Y9l hJ hts hg hlv]
 simp only [has2]
 rcases hlv with rfl | rfl
 ·simp only [if_true]
  congr 1
  funext l
  rw [Y4 hq2]; rfl
 ·simp only
  congr 1
  funext l
  rw [Y4 hq2]; rfl
theorem Y7l {TS : DS} {T : Tab} {env e1 : Env} {d ts : Nat} {t : TypeId} {t' : TE} {x : Operand} {e : TypeId} {te : Ty} {ss : List te.D} {lv : Lvl} (he : elemAt T t = some t') (hfl : t'.ty.flatB = true) (hJ : AllJ (Fr TS) env) (hts : ts ∈ TS.ts) (hg : get env ts = .con .val [⟨.slice e te, ss, .at_ lv⟩]) (hlv : lv = .dp \/ lv = .sh)
  (h : append1 T (some d) t (.tmp ts) x env some = some e1) : ∃ (lx : Leaf) (xs s' : List t'.ty.D), rd (some (.slice t'.id t'.ty)) env x = .con .val [lx] /\ lx.as (.slice t'.id t'.ty) = some xs /\ lx.m.live = true /\ (⟨.slice e te, ss, .at_ lv⟩ : Leaf).as (.slice t'.id t'.ty) = some s' := by
 unfold append1 at h
 simp only [he, hfl, if_true] at h
 split at h
 ·rename_i lx hrd
  split at h
  ·rename_i xs has
   split at h
   ·rename_i hl
    unfold appendS at h
    rw [Y9l hJ hts hg hlv] at h
    simp only at h
    split at h
    ·rename_i s' has2
     exact ⟨lx, xs, s', hrd, has, hl, has2⟩
    ·simp at h
   ·simp at h
  ·simp at h
 ·simp at h
section
variable {T : Tab} {sig : FuncId -> Option Sig} {caps : FuncId -> List Ty} {orc : Orc} {TS : DS}
theorem Ya9 {env : Env} {d : Nat} {o : Oper} {c : Call} (ho : o.op = .call c) (hc : c.callee = .builtin .append) : footVal sig env d o = none := by
 unfold footVal
 split
 ·simp only [ho, pureReads, hc]
 ·rfl
theorem Y9m {o : Oper} {d : Nat} {env e1 : Env} {W Rd : List Nat} (hJ : AllJ (Fr TS) env) (hf : footApp T TS env d o = some (W, Rd)) (h : evVal T sig caps orc d o env some = some e1) :
  ∃ vs, vs.length = W.length /\ e1 = puts env W vs /\ ∀ env2, AllJ (Fr TS) env2 -> Agree (W ++ Rd) env env2 -> evVal T sig caps orc d o env2 some = some (puts env2 W vs) /\ footVal sig env2 d o = none /\ footApp T TS env2 d o = some (W, Rd) := by
 unfold footApp at hf
 split at hf
 ·rename_i c ho
  split at hf
  ·rename_i hc
   split at hf
   ·rename_i ts x t t0 hargs htys
    split at hf
    ·rename_i t1 he
     split at hf
     ·rename_i hcond
      simp only [Bool.and_eq_true, Bool.not_eq_true', List.contains_eq_mem, decide_eq_true_eq] at hcond
      obtain ⟨⟨hts, hdt⟩, hq, ⟨hown, hfl⟩, hxt⟩ := hcond
      have hdt' : d ≠ ts := fun e => by rw [e] at hdt; simp at hdt
      simp only [Option.some.injEq, Prod.mk.injEq] at hf
      obtain ⟨rfl, rfl⟩ := hf
      obtain ⟨e, te, ss, lv, hg, _, hlv⟩ := Ya8 hown
      -- the operation, in any such environment
      have hop : ∀ (env' : Env), get env' ts = get env ts -> evVal T sig caps orc d o env' some = if t = t0 then append1 T (some d) t (.tmp ts) x env' some else none := by
       intro env' hg'
       have hn : nestOf env' (.tmp ts) = none := by
        first
         | rfl
         | (unfold nestOf; simp only [hg', hg])
       simp only [evVal, ho, hc, hargs, htys, hn]
      rw [hop env rfl] at h
      split at h
      ·rename_i htt
       obtain ⟨lx, xs, s1, hrd, has, hl, has1⟩ := Y7l he hfl hJ hts hg hlv h
       rw [Y76 he hfl hJ hts hdt' hq hg hlv hrd has hl has1] at h
       unfold appendTo at h
       obtain ⟨hb, h⟩ := Y1h h
       simp only [Option.some.injEq] at h
       refine ⟨[.undef, .con .val [⟨.slice t1.id t1.ty, s1 ++ xs, .at_ lv⟩]], rfl, h.symm, fun env2 hJ2 ha => ?_⟩
       have h1 : get env2 d = get env d := ha.2 d (by simp)
       have h3 : get env2 ts = get env ts := ha.2 ts (by simp)
       have hax : Agree (opReads env x) env env2 := ha.mono (S' := opReads env x) (fun k hk => List.mem_append_right _ hk)
       refine ⟨?_, Ya9 ho hc, ?_⟩
       ·rw [hop env2 h3, if_pos htt, Y76 he hfl hJ2 hts hdt' (by rw [h1]; exact hq) (by rw [h3]; exact hg) hlv (by rw [hax.rd]; exact hrd) has hl has1]
        unfold appendTo
        rw [hb]; rfl
       ·unfold footApp
        simp only [ho, hc, hargs, htys, he]
        rw [h1, h3, hax.reads, if_pos]
        simp [hts, hdt, hq, hown, hxt, hfl]
      ·simp at h
     ·simp at hf
    ·simp at hf
   ·simp at hf
  ·simp at hf
 ·simp at hf
theorem Y1s : ∀ (W W' : List Nat) (vs vs' : List AV) (env : Env), vs.length = W.length -> puts env (W ++ W') (vs ++ vs') = puts (puts env W vs) W' vs'
 | [], W', [], vs', env, _ => by simp [puts]
 | [], W', _ :: _, vs', env, h => by simp at h
 | w :: W, W', [], vs', env, h => by simp at h
 | w :: W, W', v :: vs, vs', env, h => by simp only [List.cons_append, puts]; exact Y1s W W' vs vs' _ (by simpa using h)
theorem Y13 (W : List Nat) : (gone W).length = W.length := by simp [gone]
theorem Y31 (W W' : List Nat) : gone (W ++ W') = gone W ++ gone W' := by simp [gone]
theorem Y37 {TS : DS} : ∀ {W : List Nat} {env : Env}, (∀ w ∈ W, w ∉ TS.bx) -> AllJ (Fr TS) env -> AllJ (Fr TS) (puts env W (gone W))
 | [], env, hW, h => by simpa [puts, gone] using h
 | w :: W, env, hW, h => by
  show AllJ (Fr TS) (puts (put env w .undef) W (gone W))
  refine Y37 (fun w' hw' => hW w' (List.mem_cons_of_mem _ hw')) (fun r => ?_)
  rw [Y1l]
  split
  ·rename_i hc
   exact ⟨by simp [AV.free, AV.refs, AV.ptrs], fun hb => absurd (hc.1 ▸ hb) (hW w List.mem_cons_self)⟩
  ·exact h r
theorem Y32 {TS : DS} {env : Env} {x : Operand} {W Rd : List Nat} (hJ : AllJ (Fr TS) env) (h : takes TS env x = some (W, Rd)) : ∀ w ∈ W, w ∉ TS.bx := by
 unfold takes at h
 split at h
 ·simp only [Option.some.injEq, Prod.mk.injEq] at h
  obtain ⟨rfl, _⟩ := h
  simp
 ·split at h
  ·rename_i s _
   split at h
   ·rename_i k ls hg
    split at h
    ·rename_i hc
     simp only [Option.some.injEq, Prod.mk.injEq] at h
     obtain ⟨rfl, _⟩ := h
     simp only [Bool.and_eq_true] at hc
     intro w hw hb
     obtain rfl : w = s := by simpa using hw
     have := (hJ w).2 hb
     rw [hg] at this
     cases k with
     | box e => have := hc.1.2; simp [Kind.plain] at this
     | _ => simp [AV.isBox] at this
    ·simp at h
   ·simp at h
  ·simp at h
theorem Y77 {W S : List Nat} {vs : List AV} {env env2 : Env} (hl : vs.length = W.length) (h : Agree S env env2) : Agree S (puts env W vs) (puts env2 W vs) := by
 refine ⟨by rw [Y1r, Y1r]; exact h.1, fun k hk => ?_⟩
 by_cases hw : k ∈ W
 ·exact Y43 hw hl h.1
 ·rw [Yx hw, Yx hw]; exact h.2 k hk
theorem Y9n {TS : DS} {env : Env} {s : Nat} {k : Kind} {ls : List Leaf} {ty : Option Ty} (hJ : AllJ (Fr TS) env) (hs : s ∈ TS.ts) (hg : get env s = .con k ls) (hk : k.plain = true) (hat : ls.all (fun l => isAt l.m) = true) (hown : ls.any (fun l => l.m.own) = true) : takeIn ty env (.tmp s) = some (put env s .undef, .con k ls) := by
 have at1 : ∀ l ∈ ls, ∃ lv, l.m = .at_ lv := fun l hl => by
  have := List.all_eq_true.1 hat l hl
  cases hm : l.m with
  | at_ lv => exact ⟨lv, rfl⟩
  | bor _ _ _ => rw [hm] at this; simp [isAt] at this
  | dead => rw [hm] at this; simp [isAt] at this
 have hpull : ∀ q, pull s q env = env := fun q => by
  unfold pull
  rw [hg]
  simp only [AV.leaf?]
  split
  ·rename_i t x r j hq
   obtain ⟨lv, e⟩ := at1 _ (Yc hq)
   simp at e
  ·rfl
 have hpulls : ∀ n, pulls s n env = env := fun n => by
  induction n with
  | zero => rfl
  | succ n ih => rw [pulls, ih, hpull]
 have hfr : ∀ {L : List Leaf}, (∀ l ∈ L, ∃ lv, l.m = .at_ lv) -> freezeAll L env = env := by
  intro L
  induction L with
  | nil => intro _; rfl
  | cons l L ih =>
   intro h
   obtain ⟨lv, e⟩ := h l List.mem_cons_self
   unfold freezeAll
   rw [e]
   exact ih (fun l hl => h l (List.mem_cons_of_mem _ hl))
 have hp : pullAll (.tmp s) env = env := by
  simp only [pullAll, hg, hk, if_true, hpulls]
 unfold takeIn
 rw [hp]
 simp only [takeIn0, hg, hk, if_true, hfr at1]
 rw [if_pos ⟨trivial, List.all_eq_true.2 fun l hl => by obtain ⟨lv, e⟩ := at1 l hl; rw [e]; rfl⟩]
 simp only [hown, if_true]
 unfold killRoot
 rw [Y44 hs (fun r => (hJ r).1)]
theorem Y78 {TS : DS} {env : Env} {x : Operand} {W Rd : List Nat} (ty : Option Ty) (hJ : AllJ (Fr TS) env) (h : takes TS env x = some (W, Rd)) : ∃ v, takeIn ty env x = some (puts env W (gone W), v) /\
  ∀ env2, AllJ (Fr TS) env2 -> Agree (W ++ Rd) env env2 -> takeIn ty env2 x = some (puts env2 W (gone W), v) /\ takes TS env2 x = some (W, Rd) := by
 unfold takes at h
 split at h
 ·rename_i hin
  simp only [Option.some.injEq, Prod.mk.injEq] at h
  obtain ⟨rfl, rfl⟩ := h
  obtain ⟨av, h1, _, _⟩ := Yy hin ⟨rfl, fun _ _ => rfl⟩ ty
  refine ⟨av, by simpa [puts, gone] using h1, fun env2 _ ha => ?_⟩
  have ha' : Agree (opReads env x) env env2 := by simpa using ha
  obtain ⟨av', k1, k2, k3⟩ := Yy hin ha' ty
  rw [h1] at k1
  simp only [Option.some.injEq, Prod.mk.injEq, true_and] at k1
  subst k1
  exact ⟨by simpa [puts, gone] using k2, by unfold takes; rw [if_pos k3, ha'.reads]⟩
 ·rename_i hin
  split at h
  ·rename_i s
   split at h
   ·rename_i k ls hg
    split at h
    ·rename_i hc
     simp only [Option.some.injEq, Prod.mk.injEq] at h
     obtain ⟨rfl, rfl⟩ := h
     simp only [Bool.and_eq_true, List.contains_eq_mem, decide_eq_true_eq] at hc
     obtain ⟨⟨hs, hk⟩, hat, hown⟩ := hc
     refine ⟨.con k ls, Y9n hJ hs hg hk hat hown, fun env2 hJ2 ha => ?_⟩
     have hg2 : get env2 s = .con k ls := (ha.2 s (by simp)).trans hg
     refine ⟨Y9n hJ2 hs hg2 hk hat hown, ?_⟩
     have hin2 : ¬ inert env2 (.tmp s) = true := by
      simp only [inert, hg2]
      simp only [inert, hg] at hin
      exact hin
     unfold takes
     rw [if_neg hin2]
     simp only [hg2]
     rw [if_pos (by simp [hs, hk, hat, hown])]
    ·simp at h
   ·simp at h
  ·simp at h
theorem Y3u {t : Ty} {env : Env} {x : Operand} {e1 : Env} {v : AV} (h : takeIn (some t) env x = some (e1, v)) : takeAs t env x = (match v with
  | .con k ls => if typedAs ls t && decide (k = t.kind) then some (e1, ls) else none
  | _ => none) := by
 cases v <;> simp only [takeAs, h]
theorem Y3v {T : Tab} {TS : DS} {s : TypeId} : ∀ {parts : List (Nat × Operand)} {env e1 : Env} {ls ls1 : List Leaf} {W Rd : List Nat}, AllJ (Fr TS) env -> takesAll TS env (parts.map (·.2)) = some (W, Rd) -> buildParts T s env ls parts = some (e1, ls1) ->
  e1 = puts env W (gone W) /\ ∀ env2, AllJ (Fr TS) env2 -> Agree (W ++ Rd) env env2 -> buildParts T s env2 ls parts = some (puts env2 W (gone W), ls1) /\ takesAll TS env2 (parts.map (·.2)) = some (W, Rd)
 | [], env, e1, ls, ls1, W, Rd, hJ, ht, hb => by
  simp only [List.map_nil, takesAll, Option.some.injEq, Prod.mk.injEq] at ht
  obtain ⟨rfl, rfl⟩ := ht
  simp only [buildParts, Option.some.injEq, Prod.mk.injEq] at hb
  obtain ⟨rfl, rfl⟩ := hb
  exact ⟨by simp [puts], fun env2 _ _ => ⟨by simp [buildParts, puts], rfl⟩⟩
 | (f, x) :: parts, env, e1, ls, ls1, W, Rd, hJ, ht, hb => by
  simp only [List.map_cons, takesAll] at ht
  split at ht
  ·rename_i W1 R1 h1
   split at ht
   ·rename_i W2 R2 h2
    simp only [Option.some.injEq, Prod.mk.injEq] at ht
    obtain ⟨rfl, rfl⟩ := ht
    simp only [buildParts] at hb
    split at hb
    ·rename_i off t hf
     obtain ⟨v, k1, k2⟩ := Y78 (some t) hJ h1
     rw [Y3u k1] at hb
     split at hb
     ·rename_i env' l htk
      split at htk
      ·rename_i k0 ls0
       split at htk
       ·rename_i hc
        simp only [Option.some.injEq, Prod.mk.injEq] at htk
        obtain ⟨rfl, rfl⟩ := htk
        split at hb
        ·rename_i hle
         obtain ⟨r1, r2⟩ := Y3v (Y37 (Y32 hJ h1) hJ) h2 hb
         refine ⟨by rw [r1, Y31, Y1s _ _ _ _ _ (Y13 _)], fun env2 hJ2 ha => ?_⟩
         have ha1 : Agree (W1 ++ R1) env env2 := ha.mono (fun k hk => by rcases List.mem_append.1 hk with hk | hk <;> simp [hk])
         have ha2 : Agree (W2 ++ R2) (puts env W1 (gone W1)) (puts env2 W1 (gone W1)) := Y77 (Y13 _) (ha.mono (fun k hk => by rcases List.mem_append.1 hk with hk | hk <;> simp [hk]))
         obtain ⟨m1, m2⟩ := k2 env2 hJ2 ha1
         obtain ⟨n1, n2⟩ := r2 _ (Y37 (Y32 hJ h1) hJ2) ha2
         refine ⟨?_, by simp only [List.map_cons, takesAll, m2, n2]⟩
         simp only [buildParts, hf]
         rw [Y3u m1]
         simp only [hc, if_true, hle]
         rw [n1, Y31, Y1s _ _ _ _ _ (Y13 _)]
        ·simp at hb
       ·simp at htk
      ·simp at htk
     ·simp at hb
    ·simp at hb
   ·simp at ht
  ·simp at ht
theorem Y46 {TS : DS} {t : Ty} : ∀ {parts : List (Nat × Operand)} {n : Nat} {env e1 : Env} {vs : List t.D} {dp : Bool} {W Rd : List Nat}, AllJ (Fr TS) env -> takesAll TS env (parts.map (·.2)) = some (W, Rd) -> elemParts t env n parts = some (e1, vs, dp) ->
  e1 = puts env W (gone W) /\ ∀ env2, AllJ (Fr TS) env2 -> Agree (W ++ Rd) env env2 -> elemParts t env2 n parts = some (puts env2 W (gone W), vs, dp) /\ takesAll TS env2 (parts.map (·.2)) = some (W, Rd)
 | [], n, env, e1, vs, dp, W, Rd, hJ, ht, hb => by
  simp only [List.map_nil, takesAll, Option.some.injEq, Prod.mk.injEq] at ht
  obtain ⟨rfl, rfl⟩ := ht
  simp only [elemParts, Option.some.injEq, Prod.mk.injEq] at hb
  obtain ⟨rfl, rfl, rfl⟩ := hb
  exact ⟨by simp [puts], fun env2 _ _ => ⟨by simp [elemParts, puts], rfl⟩⟩
 | (i, x) :: parts, n, env, e1, vs, dp, W, Rd, hJ, ht, hb => by
  simp only [List.map_cons, takesAll] at ht
  split at ht
  ·rename_i W1 R1 h1
   split at ht
   ·rename_i W2 R2 h2
    simp only [Option.some.injEq, Prod.mk.injEq] at ht
    obtain ⟨rfl, rfl⟩ := ht
    simp only [elemParts] at hb
    split at hb
    ·rename_i hi
     obtain ⟨v, k1, k2⟩ := Y78 (some t) hJ h1
     rw [Y3u k1] at hb
     split at hb
     ·rename_i env' l htk
      split at htk
      ·rename_i k0 ls0
       split at htk
       ·rename_i hc
        simp only [Option.some.injEq, Prod.mk.injEq] at htk
        obtain ⟨rfl, rfl⟩ := htk
        split at hb
        ·rename_i v0 has
         split at hb
         ·rename_i env'' vs0 d0 hrec
          simp only [Option.some.injEq, Prod.mk.injEq] at hb
          obtain ⟨rfl, rfl, rfl⟩ := hb
          obtain ⟨r1, r2⟩ := Y46 (Y37 (Y32 hJ h1) hJ) h2 hrec
          refine ⟨by rw [r1, Y31, Y1s _ _ _ _ _ (Y13 _)], fun env2 hJ2 ha => ?_⟩
          have ha1 : Agree (W1 ++ R1) env env2 := ha.mono (fun k hk => by rcases List.mem_append.1 hk with hk | hk <;> simp [hk])
          have ha2 : Agree (W2 ++ R2) (puts env W1 (gone W1)) (puts env2 W1 (gone W1)) := Y77 (Y13 _) (ha.mono (fun k hk => by rcases List.mem_append.1 hk with hk | hk <;> simp [hk]))
          obtain ⟨m1, m2⟩ := k2 env2 hJ2 ha1
          obtain ⟨n1, n2⟩ := r2 _ (Y37 (Y32 hJ h1) hJ2) ha2
          refine ⟨?_, by simp only [List.map_cons, takesAll, m2, n2]⟩
          simp only [elemParts, hi, if_true]
          rw [Y3u m1]
          simp only [hc, if_true, has]
          subst hi
          rw [n1, Y31, Y1s _ _ _ _ _ (Y13 _)]
         ·simp at hb
        ·simp at hb
       ·simp at htk
      ·simp at htk
     ·simp at hb
    ·simp at hb
   ·simp at ht
  ·simp at ht
theorem Y8e {o : Oper} {d : Nat} {env e1 : Env} {W Rd : List Nat} (hJ : AllJ (Fr TS) env) (hf : footTake TS env d o = some (W, Rd)) (h : evVal T sig caps orc d o env some = some e1) :
  ∃ vs, vs.length = W.length /\ e1 = puts env W vs /\ ∀ env2, AllJ (Fr TS) env2 -> Agree (W ++ Rd) env env2 -> evVal T sig caps orc d o env2 some = some (puts env2 W vs) /\ footTake TS env2 d o = some (W, Rd) := by
 have fin : ∀ {W0 R0 : List Nat} {v : AV}, (get env d).quiet = true -> W0.contains d = false -> W = W0 ++ [d] -> Rd = R0 -> e1 = setD (some d) (puts env W0 (gone W0)) v -> (∀ env2, AllJ (Fr TS) env2 -> Agree (W0 ++ R0) env env2 -> (get env2 d).quiet = true -> evVal T sig caps orc d o env2 some = some (setD (some d) (puts env2 W0 (gone W0)) v) /\ footTake TS env2 d o = some (W, Rd)) ->
   ∃ vs, vs.length = W.length /\ e1 = puts env W vs /\ ∀ env2, AllJ (Fr TS) env2 -> Agree (W ++ Rd) env env2 -> evVal T sig caps orc d o env2 some = some (puts env2 W vs) /\ footTake TS env2 d o = some (W, Rd) := by
  intro W0 R0 v hq hd hW hR he hk
  subst hW; subst hR
  have hd' : d ∉ W0 := by simpa using hd
  have key : ∀ (env' : Env), (get env' d).quiet = true -> setD (some d) (puts env' W0 (gone W0)) v = puts env' (W0 ++ [d]) (gone W0 ++ [v]) := fun env' hq' => by
   rw [Y4 (by rw [Yx hd']; exact hq'), Y1s _ _ _ _ _ (Y13 _)]; rfl
  refine ⟨gone W0 ++ [v], by simp [Y13], by rw [he, key env hq], fun env2 hJ2 ha => ?_⟩
  have hq2 : (get env2 d).quiet = true := by rw [ha.2 d (by simp)]; exact hq
  obtain ⟨k1, k2⟩ := hk env2 hJ2 (ha.mono (fun k hk => by rcases List.mem_append.1 hk with hk | hk <;> simp [hk])) hq2
  exact ⟨by rw [k1, key env2 hq2], k2⟩
 unfold footTake at hf
 split at hf
 ·rename_i hq
  split at hf
  ·rename_i t ps ho
   split at hf
   ·rename_i W0 R0 ht
    split at hf
    ·simp at hf
    ·rename_i hd
     simp only [Option.some.injEq, Prod.mk.injEq] at hf
     simp only [evVal, ho] at h
     split at h
     ·rename_i τ hτ
      split at h
      ·rename_i hag
       split at h
       ·rename_i env' ls hb
        obtain ⟨r1, r2⟩ := Y3v hJ ht hb
        simp only [Option.some.injEq] at h
        refine fin hq (by simpa using hd) hf.1.symm hf.2.symm (by rw [<- h, r1]) (fun env2 hJ2 ha hq2 => ?_)
        obtain ⟨m1, m2⟩ := r2 env2 hJ2 ha
        refine ⟨by simp only [evVal, ho, hτ, hag, if_true, m1], ?_⟩
        unfold footTake
        rw [if_pos hq2]
        simp only [ho, m2]
        rw [if_neg hd, hf.1, hf.2]
       ·simp at h
      ·simp at h
     ·simp at h
   ·simp at hf
  ·rename_i t n ps ho
   split at hf
   ·rename_i W0 R0 ht
    split at hf
    ·simp at hf
    ·rename_i hd
     simp only [Option.some.injEq, Prod.mk.injEq] at hf
     simp only [evVal, ho] at h
     split at h
     ·rename_i te hte
      split at h
      ·rename_i hc
       split at h
       ·rename_i env' xs dp hb
        obtain ⟨r1, r2⟩ := Y46 hJ ht hb
        simp only [Option.some.injEq] at h
        refine fin hq (by simpa using hd) hf.1.symm hf.2.symm (by rw [<- h, r1]) (fun env2 hJ2 ha hq2 => ?_)
        obtain ⟨m1, m2⟩ := r2 env2 hJ2 ha
        refine ⟨by simp only [evVal, ho, hte, m1]; rw [if_pos hc], ?_⟩
        unfold footTake
        rw [if_pos hq2]
        simp only [ho, m2]
        rw [if_neg hd, hf.1, hf.2]
       ·simp at h
      ·simp at h
     ·simp at h
   ·simp at hf
  ·simp at hf
 ·simp at hf
theorem Y9o {o : Oper} {d : Nat} {env e1 : Env} {W Rd : List Nat} (hJ : AllJ (Fr TS) env) (hf : footBox sig TS env d o = some (W, Rd)) (h : evVal T sig caps orc d o env some = some e1) :
  ∃ vs, vs.length = W.length /\ e1 = puts env W vs /\ ∀ env2, AllJ (Fr TS) env2 -> Agree (W ++ Rd) env env2 -> evVal T sig caps orc d o env2 some = some (puts env2 W vs) /\ footVal sig env2 d o = none /\ footBox sig TS env2 d o = some (W, Rd) := by simp [footBox] at hf
theorem Yaa {env : Env} {d : Nat} {o : Oper} {c : Call} (ho : o.op = .call c) (hc : c.callee = .builtin .append) : footBox sig TS env d o = none := rfl
theorem Y9p {env : Env} {d : Nat} {o : Oper} {f : Foot} {W Rd : List Nat} (h : footApp T TS env d o = some (W, Rd)) : ∃ c, o.op = .call c /\ c.callee = .builtin .append := by
 unfold footApp at h
 split at h
 ·rename_i c ho
  split at h
  ·rename_i hc; exact ⟨c, ho, hc⟩
  ·simp at h
 ·simp at h
theorem Y9q {env : Env} {d : Nat} {o : Oper} {f : Foot} (h : footBox sig TS env d o = f) (hf : f ≠ none) : ∃ c, o.op = .call c := absurd h.symm hf
theorem Y5d {env : Env} {d : Nat} {o : Oper} {c : Call} (ho : o.op = .call c) : footPtr TS env d o = none := rfl
theorem Y8f {env env2 : Env} {d : Nat} {o : Oper} (hfp0 : footPtr TS env d o = none) (hq : (get env2 d).quiet = (get env d).quiet) : footPtr TS env2 d o = none := rfl
theorem Y9r {o : Oper} {d : Nat} {env e1 : Env} {W Rd : List Nat} (hJ : AllJ (Fr TS) env) (hf : footPtr TS env d o = some (W, Rd)) (h : evVal T sig caps orc d o env some = some e1) :
  ∃ vs, vs.length = W.length /\ e1 = puts env W vs /\ ∀ env2, AllJ (Fr TS) env2 -> Agree (W ++ Rd) env env2 -> evVal T sig caps orc d o env2 some = some (puts env2 W vs) /\ footPtr TS env2 d o = some (W, Rd) := by simp [footPtr] at hf
theorem Y5e {o : Oper} {env e1 : Env} {W Rd : List Nat} (hJ : AllJ (Fr TS) env) (hf : footRun T sig TS o env = some (W, Rd)) (h : evOp T sig caps orc o env some = some e1) :
  ∃ vs, vs.length = W.length /\ e1 = puts env W vs /\ ∀ env2, AllJ (Fr TS) env2 -> Agree (W ++ Rd) env env2 -> evOp T sig caps orc o env2 some = some (puts env2 W vs) /\ footRun T sig TS o env2 = some (W, Rd) := by
 unfold footRun at hf
 unfold evOp at h
 split at hf
 ·rename_i d hd
  rw [hd] at h
  simp only at h
  split at h
  ·rename_i hlt
   split at hf
   ·rename_i hib
    obtain ⟨vs, e0, e, k⟩ := Y8e hJ hf h
    refine ⟨vs, e0, e, fun env2 hJ2 ha => ?_⟩
    obtain ⟨k1, k2⟩ := k env2 hJ2 ha
    exact ⟨by unfold evOp; rw [hd]; simp only; rw [if_pos (by rw [ha.1]; exact hlt)]; exact k1, by unfold footRun; rw [hd]; simp only; rw [if_pos hib]; exact k2⟩
   rename_i hib
   split at hf
   ·rename_i fp hfp
    simp only [Option.some.injEq] at hf
    subst hf
    obtain ⟨vs, e0, e, k⟩ := Y9r hJ hfp h
    refine ⟨vs, e0, e, fun env2 hJ2 ha => ?_⟩
    obtain ⟨k1, k2⟩ := k env2 hJ2 ha
    exact ⟨by unfold evOp; rw [hd]; simp only; rw [if_pos (by rw [ha.1]; exact hlt)]; exact k1, by unfold footRun; rw [hd]; simp only; rw [if_neg hib, k2]⟩
   rename_i hfp0
   -- whether it is such a move does not depend on the environment
   have hfp : ∀ env2, AllJ (Fr TS) env2 -> (get env2 d).quiet = (get env d).quiet -> footPtr TS env2 d o = none := fun env2 _ hq => Y8f hfp0 hq
   split at hf
   ·rename_i t R hfv
    simp only [Option.some.injEq, Prod.mk.injEq] at hf
    obtain ⟨rfl, rfl⟩ := hf
    obtain ⟨rfl, v, e, k⟩ := Y9k hfv h
    refine ⟨[v], rfl, e, fun env2 hJ2 ha => ?_⟩
    obtain ⟨k1, k2⟩ := k env2 ha
    exact ⟨by unfold evOp; rw [hd]; simp only; rw [if_pos (by rw [ha.1]; exact hlt)]; exact k1, by unfold footRun; rw [hd]; simp only; rw [if_neg hib, hfp env2 hJ2 (by rw [ha.2 _ (by simp)])]; simp only; rw [k2]⟩
   ·rename_i hfv
    split at hf
    ·rename_i fb hfb
     simp only [Option.some.injEq] at hf
     subst hf
     obtain ⟨vs, e0, e, k⟩ := Y9o hJ hfb h
     refine ⟨vs, e0, e, fun env2 hJ2 ha => ?_⟩
     obtain ⟨k1, k2, k3⟩ := k env2 hJ2 ha
     exact ⟨by unfold evOp; rw [hd]; simp only; rw [if_pos (by rw [ha.1]; exact hlt)]; exact k1, by unfold footRun; rw [hd]; simp only; rw [if_neg hib, Y5d (Y9q hfb (by simp)).choose_spec]; simp only; rw [k2]; simp only; rw [k3]⟩
    rename_i hfb
    obtain ⟨c0, ho0, hc0⟩ := Y9p (f := none) hf
    obtain ⟨vs, e0, e, k⟩ := Y9m hJ hf h
    refine ⟨vs, e0, e, fun env2 hJ2 ha => ?_⟩
    obtain ⟨k1, k2, k3⟩ := k env2 hJ2 ha
    exact ⟨by unfold evOp; rw [hd]; simp only; rw [if_pos (by rw [ha.1]; exact hlt)]; exact k1, by unfold footRun; rw [hd]; simp only; rw [if_neg hib, Y5d ho0]; simp only; rw [k2]; simp only; rw [Yaa ho0 hc0]; exact k3⟩
  ·simp at h
 ·simp at hf
theorem Y4q {o : Oper} {env e1 : Env} {W Rd : List Nat} (hf : footSkip o env = some (W, Rd)) (h : skipOp o env some = some e1) :
  ∃ vs, vs.length = W.length /\ e1 = puts env W vs /\ ∀ env2, Agree (W ++ Rd) env env2 -> skipOp o env2 some = some (puts env2 W vs) /\ footSkip o env2 = some (W, Rd) := by
 unfold footSkip at hf
 unfold skipOp at h
 split at hf
 ·rename_i d hd
  rw [hd] at h
  simp only at h
  split at hf
  ·rename_i hq
   simp only [Option.some.injEq, Prod.mk.injEq] at hf
   obtain ⟨rfl, rfl⟩ := hf
   split at h
   ·rename_i hlt
    simp only [Option.some.injEq] at h
    rw [Y4 hq] at h
    refine ⟨[.skip], rfl, h.symm, fun env2 ha => ?_⟩
    have hq2 : (get env2 d).quiet = true := by rw [ha.2 d (by simp)]; exact hq
    exact ⟨by unfold skipOp; rw [hd]; simp only; rw [if_pos (by rw [ha.1]; exact hlt), Y4 hq2]; rfl, by unfold footSkip; rw [hd]; simp only; rw [if_pos hq2]⟩
   ·simp at h
  ·simp at hf
 ·simp at hf
theorem Y4j {xs : List Nat} {f : Foot} {W Rd : List Nat} (h : Foot.reads xs f = some (W, Rd)) : ∃ R, f = some (W, R) /\ Rd = xs ++ R := by
 cases f with
 | none => simp [Foot.reads] at h
 | some p =>
  obtain ⟨W', R⟩ := p
  simp only [Foot.reads, Option.some.injEq, Prod.mk.injEq] at h
  exact ⟨R, by rw [h.1], h.2.symm⟩
theorem Ybn {ops : Array Oper} {o : Oper} {env e1 : Env} {W Rd : List Nat} (hJ : AllJ (Fr TS) env) (hf : footG T sig TS ops o env = some (W, Rd)) (h : evOps T sig caps orc ops [o] env some = some e1) :
  ∃ vs, vs.length = W.length /\ e1 = puts env W vs /\ ∀ env2, AllJ (Fr TS) env2 -> Agree (W ++ Rd) env env2 -> evOps T sig caps orc ops [o] env2 some = some (puts env2 W vs) /\ footG T sig TS ops o env2 = some (W, Rd) := by
 simp only [evOps] at h
 unfold footG at hf
 cases hg : o.guard with
 | none =>
  rw [hg] at h hf
  simp only at h hf
  obtain ⟨vs, e0, e, k⟩ := Y5e hJ hf h
  refine ⟨vs, e0, e, fun env2 hJ2 ha => ?_⟩
  obtain ⟨k1, k2⟩ := k env2 hJ2 ha
  exact ⟨by simp only [evOps, hg]; exact k1, by unfold footG; rw [hg]; exact k2⟩
 | some g =>
  obtain ⟨j, want⟩ := g
  rw [hg] at h hf
  simp only at h hf
  cases hj : (ops[j]?).bind (·.dst) with
  | none => rw [hj] at h; simp at h
  | some dj =>
   rw [hj] at h hf
   simp only at h hf
   have split2 : ∀ {R : List Nat} {env2 : Env}, Rd = [dj] ++ R -> Agree (W ++ Rd) env env2 -> get env2 dj = get env dj /\ Agree (W ++ R) env env2 := by
    intro R env2 hR ha
    subst hR
    exact ⟨ha.2 dj (by simp), ha.mono (fun k hk => by
     rcases List.mem_append.1 hk with hk | hk
     ·simp [hk]
     ·simp [hk])⟩
   split at h
   ·rename_i hs
    rw [hs] at hf
    simp only at hf
    obtain ⟨R, hf1, hR⟩ := Y4j hf
    obtain ⟨vs, e0, e, k⟩ := Y4q hf1 h
    refine ⟨vs, e0, e, fun env2 hJ2 ha => ?_⟩
    obtain ⟨a1, a2⟩ := split2 hR ha
    rw [hs] at a1
    obtain ⟨k1, k2⟩ := k env2 a2
    exact ⟨by simp only [evOps, hg, hj, a1]; exact k1, by unfold footG; rw [hg]; simp only [hj, a1, k2, Foot.reads, hR]⟩
   ·rename_i b hs
    rw [hs] at hf
    simp only at hf
    have hput : put env dj (vBool b) = env := Y2t hs
    have fin : ∀ (b' : Bool), b' = b -> (if b' = want then evOp T sig caps orc o env some else skipOp o env some) = some e1 -> ∃ vs, vs.length = W.length /\ e1 = puts env W vs /\ ∀ env2, AllJ (Fr TS) env2 -> Agree (W ++ Rd) env env2 -> evOps T sig caps orc ops [o] env2 some = some (puts env2 W vs) /\ footG T sig TS ops o env2 = some (W, Rd) := by
     intro b' hb' hh
     subst hb'
     by_cases hw : b' = want
     ·rw [if_pos hw] at hh hf
      obtain ⟨R, hf1, hR⟩ := Y4j hf
      obtain ⟨vs, e0, e, k⟩ := Y5e hJ hf1 hh
      refine ⟨vs, e0, e, fun env2 hJ2 ha => ?_⟩
      obtain ⟨a1, a2⟩ := split2 hR ha
      rw [hs] at a1
      obtain ⟨k1, k2⟩ := k env2 hJ2 a2
      have hput2 : put env2 dj (vBool b') = env2 := Y2t a1
      refine ⟨?_, by unfold footG; rw [hg]; simp only [hj, a1, k2, Foot.reads, hR]; rw [if_pos hw]⟩
      simp only [evOps, hg, hj, a1]
      subst hw
      cases b' with
      | true => simp only [cond_true, if_true]; rw [hput2]; exact k1
      | false => simp only [cond_false, Bool.false_eq_true, if_false]; rw [hput2]; exact k1
     ·rw [if_neg hw] at hh hf
      obtain ⟨R, hf1, hR⟩ := Y4j hf
      obtain ⟨vs, e0, e, k⟩ := Y4q hf1 hh
      refine ⟨vs, e0, e, fun env2 hJ2 ha => ?_⟩
      obtain ⟨a1, a2⟩ := split2 hR ha
      rw [hs] at a1
      obtain ⟨k1, k2⟩ := k env2 a2
      have hput2 : put env2 dj (vBool b') = env2 := Y2t a1
      refine ⟨?_, by unfold footG; rw [hg]; simp only [hj, a1, k2, Foot.reads, hR]; rw [if_neg hw]⟩
      simp only [evOps, hg, hj, a1]
      cases b' with
      | true => cases want with
       | true => exact absurd rfl hw
       | false => simp only [cond_true, Bool.false_eq_true, if_false]; rw [hput2]; exact k1
      | false => cases want with
       | true => simp only [cond_false, if_true]; rw [hput2]; exact k1
       | false => exact absurd rfl hw
    refine fin b rfl ?_
    cases b with
    | true =>
     simp only [cond_true] at h
     rw [hput] at h
     cases want with
     | true => simpa using h
     | false => simpa using h
    | false =>
     simp only [cond_false] at h
     rw [hput] at h
     cases want with
     | true => simpa using h
     | false => simpa using h
   ·simp at h
def stepI (T : Tab) (sig : FuncId -> Option Sig) (caps : FuncId -> List Ty) (orc : Orc) (ops : Array Oper) (i : Nat) (env : Env) : Option Env := match ops[i]? with
 | some o => evOps T sig caps orc ops [o] env some
 | none => none
def footI (T : Tab) (sig : FuncId -> Option Sig) (TS : DS) (ops : Array Oper) (i : Nat) (env : Env) : Foot := match ops[i]? with
 | some o => footG T sig TS ops o env
 | none => none
theorem Ydt (ops : Array Oper) : Mild (Fr TS) (stepI T sig caps orc ops) (footI T sig TS ops) := by
 intro i env W Rd env' hJ hf hs
 unfold stepI at hs
 unfold footI at hf
 cases ho : ops[i]? with
 | none => rw [ho] at hs; simp at hs
 | some o =>
  rw [ho] at hs hf
  simp only at hs hf
  obtain ⟨vs, e0, e, k⟩ := Ybn hJ hf hs
  refine ⟨vs, e0, e, fun env2 hJ2 hl ha => ?_⟩
  obtain ⟨k1, k2⟩ := k env2 hJ2 ⟨hl, ha⟩
  exact ⟨by unfold stepI; rw [ho]; exact k1, by unfold footI; rw [ho]; exact k2⟩
theorem Y9s {R : Type} {ops : Array Oper} {φ : Nat -> Foot} {E : Env} {K : Env -> Option R} {r : R} (hK : K E = some r) : ∀ {l : List Nat} {env : Env}, Trace (Fr TS) (stepI T sig caps orc ops) (footI T sig TS ops) l env E φ -> evOps T sig caps orc ops (l.filterMap (ops[·]?)) env K = some r
 | [], env, h => by
  obtain ⟨_, h⟩ := h
  subst h
  exact hK
 | i :: l, env, ⟨_, _, e1, h1, h2⟩ => by
  unfold stepI at h1
  cases ho : ops[i]? with
  | none => rw [ho] at h1; simp at h1
  | some o =>
   rw [ho] at h1
   simp only at h1
   rw [List.filterMap_cons_some (by exact ho), Ybk, h1]
   exact Y9s hK h2
end
end Go.FP

namespace Go.FP
open Go.RowKit
def ancMask (ms : List Nat) : List Edge -> Nat
 | [] => 0
 | e :: r => if Region.binds .any e then (2 ^ e.on ||| ms.getD e.on 0) ||| ancMask ms r else ancMask ms r
def notIn (t : Nat) : List Nat -> Bool
 | [] => true
 | x :: r => !(Nat.beq x t) && notIn t r
def disB : Foot -> Foot -> Bool
 | some (W, R), some (W', R') => (W.all fun w => notIn w W' && notIn w R') && W'.all fun w => notIn w R
 | _, _ => false
def okE (TS : DS) (env : Env) : Bool := (TS.ts.isEmpty && TS.bx.isEmpty) || (env.all (AV.free TS) && TS.bx.all fun r => (get env r).isBox)
def usesOf : Op -> List Operand
 | .move x | .assign x | .box _ x | .nilCheck x | .load _ x | .fieldAddr _ x _ | .field _ x _ | .unOp _ _ x | .convert _ _ x | .extract x _ => [x]
 | .pick c a b => [c, a, b]
 | .build _ ps => ps.toList.map (·.2)
 | .buildSlice _ _ ps => ps.toList.map (·.2)
 | .indexAddr _ x i | .index _ x i | .makeSlice _ x i | .store _ x i => [x, i]
 | .binOp _ _ x y _ => [x, y]
 | .slice _ x lo hi _ => x :: (lo.toList ++ hi.toList)
 | .call c => c.args.toList
 | _ => []
def makesRow : Op -> Bool
 | .buildSlice _ _ _ => true
 | .build _ _ => true
 | .makeSlice _ _ _ => true
 | .call c => match c.callee with
  | .builtin .append => true
  | .value _ => true
  | _ => false
 | _ => false
def takenBy : Op -> List Operand
 | .build _ ps => ps.toList.map (·.2)
 | .buildSlice _ _ ps => ps.toList.map (·.2)
 | .call c => match c.callee with
  | .builtin .append => c.args.toList.take 1
  | _ => []
 | _ => []
def tsOf (ops : List Oper) : List Nat := ops.flatMap fun o => (takenBy o.op).filterMap fun x => match x with
 | .tmp s => if (ops.any fun o => o.dst == some s && makesRow o.op) && Nat.beq ((ops.map fun o => ((usesOf o.op).filter (isTmp s)).length).sum) 1 then some s else none
 | _ => none
def okAll (mask : Nat) : Nat -> List Foot -> Foot -> Bool
 | _, [], _ => true
 | i, f :: fs, g => (mask.testBit i || disB f g) && okAll mask (i + 1) fs g
def opsOf : Op -> Option (List Operand)
 | .move x | .assign x | .box _ x | .load _ x | .nilCheck x | .unOp _ _ x | .convert _ _ x | .fieldAddr _ x _ | .field _ x _ | .extract x _ => some [x]
 | .alloc _ => some []
 | .pick c a b => some [c, a, b]
 | .build _ ps => some (ps.toList.map (·.2))
 | .buildSlice _ _ ps => some (ps.toList.map (·.2))
 | .store _ a v | .binOp _ _ a v _ | .makeSlice _ a v | .indexAddr _ a v | .index _ a v => some [a, v]
 | .slice _ x l h m => some (x :: (l.toList ++ (h.toList ++ m.toList)))
 | .call c => match c.callee with
  | .value f => some (f :: c.args.toList)
  | .builtin _ => some c.args.toList
  | _ => none
 | _ => none
def swapOk (ops : Array Oper) (d : Nat) (x : Operand) (k : Oper) : Bool :=
 (match opsOf k.op with
  | some xs => xs.all fun y => !isTmp d y
  | none => false) && ((match k.dst with
   | some dk => !(Nat.beq d dk) && !isTmp dk x
   | none => true) && (match k.guard with
    | some (j, _) => (match (ops[j]?).bind (·.dst) with
     | some dj => !(Nat.beq d dj)
     | none => true)
    | none => true))
def bareOp : Op -> Option Operand
 | .move x => some x
 | .extract x _ => some x
 | _ => none
def floatTo (ops : Array Oper) (i : Nat) (d : Nat) (x : Operand) : Nat -> Bool
 | 0 => true
 | n + 1 => (decide (n <= i) || (match ops[n]? with
  | some k => swapOk ops d x k || k.after.toList.any fun e => Region.binds .any e && Nat.beq e.on i
  | none => true)) && floatTo ops i d x n
def floatOk (ops : Array Oper) (i : Nat) : Bool := match ops[i]? with
 | some z => (match bareOp z.op, z.dst with
  | some x, some d => z.guard.isNone && (!isTmp d x && floatTo ops i d x ops.size)
  | _, _ => false)
 | none => false
def okFloat (ops : Array Oper) (mask : Nat) : Nat -> Bool
 | 0 => true
 | n + 1 => (mask.testBit n || floatOk ops n) && okFloat ops mask n
def okStep (ops : Array Oper) (mask : Nat) (fs : List Foot) (f : Foot) : Bool := okAll mask 0 fs f || okFloat ops mask fs.length
section
variable {R : Type} (T : Tab) (sig : FuncId -> Option Sig) (caps : FuncId -> List Ty) (orc : Orc)
def evDraw (TS : DS) (ops : Array Oper) : List Oper -> List Nat -> List Foot -> Env -> (Env -> Option R) -> Option R
 | [], _, _, env, K => K env
 | o :: rest, ms, fs, env, K =>
  let mask := ancMask ms o.after.toList
  if o.after.toList.all (fun e => !Region.binds .any e || decide (e.on < ms.length)) then
   match o.guard with
   | none => if okStep ops mask fs (footRun T sig TS o env) then evOp T sig caps orc o env fun env' => if okE TS env' then evDraw TS ops rest (ms ++ [mask]) (fs ++ [footRun T sig TS o env]) env' K else none else none
   | some (j, want) => match (ops[j]?).bind (·.dst) with
    | none => none
    | some dj => match get env dj with
     | .skip => if okStep ops mask fs (Foot.reads [dj] (footSkip o env)) then skipOp o env fun env' => if okE TS env' then evDraw TS ops rest (ms ++ [mask]) (fs ++ [Foot.reads [dj] (footSkip o env)]) env' K else none else none
     | .con .val [⟨.bool, b, .at_ .ro⟩] => bif b
       then (if want then (if okStep ops mask fs (Foot.reads [dj] (footRun T sig TS o (put env dj (vBool true)))) then evOp T sig caps orc o (put env dj (vBool true)) fun env' => if okE TS env' then evDraw TS ops rest (ms ++ [mask]) (fs ++ [Foot.reads [dj] (footRun T sig TS o (put env dj (vBool true)))]) env' K else none else none)
        else (if okStep ops mask fs (Foot.reads [dj] (footSkip o (put env dj (vBool true)))) then skipOp o (put env dj (vBool true)) fun env' => if okE TS env' then evDraw TS ops rest (ms ++ [mask]) (fs ++ [Foot.reads [dj] (footSkip o (put env dj (vBool true)))]) env' K else none else none))
       else (if want then (if okStep ops mask fs (Foot.reads [dj] (footSkip o (put env dj (vBool false)))) then skipOp o (put env dj (vBool false)) fun env' => if okE TS env' then evDraw TS ops rest (ms ++ [mask]) (fs ++ [Foot.reads [dj] (footSkip o (put env dj (vBool false)))]) env' K else none else none)
        else (if okStep ops mask fs (Foot.reads [dj] (footRun T sig TS o (put env dj (vBool false)))) then evOp T sig caps orc o (put env dj (vBool false)) fun env' => if okE TS env' then evDraw TS ops rest (ms ++ [mask]) (fs ++ [Foot.reads [dj] (footRun T sig TS o (put env dj (vBool false)))]) env' K else none else none))
     | _ => none
  else none
def boxCalls (ops : List Oper) : Bool := ops.any fun o => match o.op with
 | .call c => match c.callee with
  | .value (.func f) => match sig f with
   | some sg => sg.box.isSome
   | none => false
  | _ => false
 | _ => false
def boxesOf : Nat -> Env -> List Nat
 | _, [] => []
 | n, v :: r => match v with
  | .con (.box _) ls => if ls.all fun l => !l.m.own then n :: boxesOf (n + 1) r else boxesOf (n + 1) r
  | _ => boxesOf (n + 1) r
def firstOk (env : Env) : List DS -> DS
 | [] => {}
 | D :: r => if okE D env then D else firstOk env r
def drawTS (ops : Array Oper) (env : Env) : DS :=
 let ts := tsOf ops.toList
 firstOk env [⟨ts, if boxCalls sig ops.toList then boxesOf 0 env else []⟩, ⟨ts, []⟩]
def drawReg (ops : Array Oper) (env : Env) (K : Env -> Option R) : Option R := evDraw T sig caps orc (drawTS sig ops env) ops ops.toList [] [] env K
end
section
variable {R : Type} {T : Tab} {sig : FuncId -> Option Sig} {caps : FuncId -> List Ty} {orc : Orc}
theorem Yab {ops : Array Oper} {o : Oper} {rest : List Oper} {TS : DS} {ms : List Nat} {fs : List Foot} {env : Env} {K : Env -> Option R} {r : R} (h : evDraw T sig caps orc TS ops (o :: rest) ms fs env K = some r) :
  (∀ e ∈ o.after.toList, Region.binds .any e = true -> e.on < ms.length) /\ okStep ops (ancMask ms o.after.toList) fs (footG T sig TS ops o env) = true /\ ∃ e1, evOps T sig caps orc ops [o] env some = some e1 /\ okE TS e1 = true /\ evDraw T sig caps orc TS ops rest (ms ++ [ancMask ms o.after.toList]) (fs ++ [footG T sig TS ops o env]) e1 K = some r := by
 simp only [evDraw] at h
 split at h
 ·rename_i hb
  refine ⟨fun e he hbe => by have := List.all_eq_true.1 hb e he; rw [hbe] at this; simpa using this, ?_⟩
  have run : ∀ {f : Foot} {X : Env}, (if okStep ops (ancMask ms o.after.toList) fs f = true then evOp T sig caps orc o X fun env' => if okE TS env' then evDraw T sig caps orc TS ops rest (ms ++ [ancMask ms o.after.toList]) (fs ++ [f]) env' K else none else none) = some r ->
    okStep ops (ancMask ms o.after.toList) fs f = true /\ ∃ e1, evOp T sig caps orc o X some = some e1 /\ okE TS e1 = true /\ evDraw T sig caps orc TS ops rest (ms ++ [ancMask ms o.after.toList]) (fs ++ [f]) e1 K = some r := by
   intro f X h
   split at h
   ·rename_i hok
    rw [Y3t] at h
    obtain ⟨e1, h1, h2⟩ := Option.bind_eq_some_iff.1 h
    split at h2
    ·rename_i hE
     exact ⟨hok, e1, h1, hE, h2⟩
    ·simp at h2
   ·simp at h
  have skp : ∀ {f : Foot} {X : Env}, (if okStep ops (ancMask ms o.after.toList) fs f = true then skipOp o X fun env' => if okE TS env' then evDraw T sig caps orc TS ops rest (ms ++ [ancMask ms o.after.toList]) (fs ++ [f]) env' K else none else none) = some r ->
    okStep ops (ancMask ms o.after.toList) fs f = true /\ ∃ e1, skipOp o X some = some e1 /\ okE TS e1 = true /\ evDraw T sig caps orc TS ops rest (ms ++ [ancMask ms o.after.toList]) (fs ++ [f]) e1 K = some r := by
   intro f X h
   split at h
   ·rename_i hok
    rw [Y30] at h
    obtain ⟨e1, h1, h2⟩ := Option.bind_eq_some_iff.1 h
    split at h2
    ·rename_i hE
     exact ⟨hok, e1, h1, hE, h2⟩
    ·simp at h2
   ·simp at h
  unfold footG
  simp only [evOps]
  cases hg : o.guard with
  | none =>
   rw [hg] at h
   simp only at h ⊢
   exact run h
  | some g =>
   obtain ⟨j, want⟩ := g
   rw [hg] at h
   simp only at h ⊢
   cases hj : (ops[j]?).bind (·.dst) with
   | none => rw [hj] at h; simp at h
   | some dj =>
    rw [hj] at h
    simp only at h ⊢
    split at h
    ·rename_i hs
     simp only [hs]
     exact skp h
    ·rename_i b hs
     have hput : put env dj (vBool b) = env := Y2t hs
     simp only [hs]
     cases b with
     | true =>
      simp only [cond_true] at h ⊢
      rw [hput] at h ⊢
      cases want with
      | true => simp only [if_true] at h ⊢; exact run h
      | false => simp only [Bool.false_eq_true, if_false, Bool.true_eq_false] at h ⊢; exact skp h
     | false =>
      simp only [cond_false] at h ⊢
      rw [hput] at h ⊢
      cases want with
      | true => simp only [if_true, Bool.false_eq_true, if_false] at h ⊢; exact skp h
      | false => simp only [Bool.false_eq_true, if_false, if_true] at h ⊢; exact run h
    ·simp at h
 ·simp at h
end
end Go.FP

namespace Go.FP
open Go.RowKit
inductive Anc (ops : Array Oper) : Nat -> Nat -> Prop
 | edge {j : Nat} {o : Oper} {e : Edge} (h1 : ops[j]? = some o) (h2 : e ∈ o.after) (h3 : Region.binds .any e = true) : Anc ops j e.on
 | trans {j i : Nat} {o : Oper} {e : Edge} (h1 : ops[j]? = some o) (h2 : e ∈ o.after) (h3 : Region.binds .any e = true) (h4 : Anc ops e.on i) : Anc ops j i
theorem Y45 {ms : List Nat} {i : Nat} : ∀ {l : List Edge}, (ancMask ms l).testBit i = true -> ∃ e ∈ l, Region.binds .any e = true /\ (e.on = i \/ (ms.getD e.on 0).testBit i = true)
 | [], h => by simp [ancMask] at h
 | e :: l, h => by
  unfold ancMask at h
  split at h
  ·rename_i hb
   rw [Nat.testBit_or, Nat.testBit_or, Nat.testBit_two_pow] at h
   simp only [Bool.or_eq_true, decide_eq_true_eq] at h
   rcases h with (h | h) | h
   ·exact ⟨e, by simp, hb, .inl h⟩
   ·exact ⟨e, by simp, hb, .inr h⟩
   ·obtain ⟨e', h1, h2⟩ := Y45 h
    exact ⟨e', by simp [h1], h2⟩
  ·obtain ⟨e', h1, h2⟩ := Y45 h
   exact ⟨e', by simp [h1], h2⟩
theorem Y3j {t : Nat} : ∀ {l : List Nat}, notIn t l = true -> t ∉ l
 | [], _ => by simp
 | x :: l, h => by
  simp only [notIn, Bool.and_eq_true, Bool.not_eq_true'] at h
  have h1 : x ≠ t := fun e => by rw [e] at h; simp at h
  simp only [List.mem_cons, not_or]
  exact ⟨fun e => h1 e.symm, Y3j h.2⟩
theorem Yc8 {f g : Foot} (h : disB f g = true) : Dis f g := by
 cases f with
 | none => simp [disB] at h
 | some p => cases g with
  | none => simp [disB] at h
  | some q =>
   obtain ⟨W, R⟩ := p
   obtain ⟨W', R'⟩ := q
   simp only [disB, Bool.and_eq_true, List.all_eq_true] at h
   exact ⟨fun w hw => ⟨Y3j (h.1 w hw).1, Y3j (h.1 w hw).2⟩, fun w hw => Y3j (h.2 w hw)⟩
theorem Y79 {mask : Nat} {g : Foot} : ∀ {fs : List Foot} {i : Nat}, okAll mask i fs g = true -> ∀ k f, fs[k]? = some f -> mask.testBit (i + k) = true \/ Dis f g
 | [], i, _, k, f, hk => by simp at hk
 | f0 :: fs, i, h, k, f, hk => by
  simp only [okAll, Bool.and_eq_true, Bool.or_eq_true] at h
  cases k with
  | zero =>
   simp only [List.getElem?_cons_zero, Option.some.injEq] at hk
   subst hk
   exact h.1.imp (fun h => h) Yc8
  | succ k =>
   have := Y79 h.2 k f (by simpa using hk)
   rwa [show i + 1 + k = i + (k + 1) by omega] at this
section
variable {R : Type} {T : Tab} {sig : FuncId -> Option Sig} {caps : FuncId -> List Ty} {orc : Orc}
theorem Y9t {TS : DS} (h1 : TS.ts = []) (h2 : TS.bx = []) (v : AV) : v.free TS = true := by simp [AV.free, h1, h2]
theorem Yam {TS : DS} {env : Env} (h : okE TS env = true) : AllJ (Fr TS) env := by
 unfold okE at h
 rw [Bool.or_eq_true] at h
 intro r
 rcases h with h | h
 ·rw [Bool.and_eq_true] at h
  exact ⟨Y9t (List.isEmpty_iff.1 h.1) (List.isEmpty_iff.1 h.2) _, fun hb => by rw [List.isEmpty_iff.1 h.2] at hb; simp at hb⟩
 ·have key : ∀ {l : Env}, l.all (AV.free TS) = true -> ∀ r, (get l r).free TS = true := by
   intro l
   induction l with
   | nil => intro _ r; simp [get, AV.free, AV.refs, AV.ptrs]
   | cons v l ih =>
    intro hl r
    simp only [List.all_cons, Bool.and_eq_true] at hl
    cases r with
    | zero => exact hl.1
    | succ r => exact ih hl.2 r
  rw [Bool.and_eq_true] at h
  exact ⟨key h.1 r, fun hb => List.all_eq_true.1 h.2 r hb⟩
theorem Y5f {ops : Array Oper} {mask : Nat} : ∀ {n : Nat}, okFloat ops mask n = true -> ∀ i, i < n -> mask.testBit i = true \/ floatOk ops i = true
 | 0, _, i, hi => by omega
 | n + 1, h, i, hi => by
  simp only [okFloat, Bool.and_eq_true, Bool.or_eq_true] at h
  by_cases e : i = n
  ·subst e; exact h.1
  ·exact Y5f h.2 i (by omega)
theorem Y5g {TS : DS} {ops : Array Oper} {K : Env -> Option R} {r : R} : ∀ {rest : List Oper} {ms : List Nat} {fs : List Foot} {env : Env} {k : Nat}, evDraw T sig caps orc TS ops rest ms fs env K = some r -> AllJ (Fr TS) env -> ms.length = k -> fs.length = k -> (∀ m, rest[m]? = ops[k + m]?) ->
  (∀ j, j < k -> ∀ i, (ms.getD j 0).testBit i = true -> Anc ops j i) ->
  ∃ (E : Env) (gs : List Foot), gs.length = rest.length /\ Trace (Fr TS) (stepI T sig caps orc ops) (footI T sig TS ops) (List.range' k rest.length) env E (fun i => (fs ++ gs).getD i none) /\ K E = some r /\
   (∀ j, k <= j -> j < k + rest.length -> (∀ o, ops[j]? = some o -> ∀ e ∈ o.after, Region.binds .any e = true -> e.on < j) /\ ((∀ i, i < j -> Anc ops j i \/ Dis ((fs ++ gs).getD i none) ((fs ++ gs).getD j none)) \/ ∀ i, i < j -> Anc ops j i \/ floatOk ops i = true))
 | [], ms, fs, env, k, h, hJ, h1, h2, h3, h4 => by
  exact ⟨env, [], rfl, ⟨hJ, rfl⟩, h, fun j hj hj' => by simp at hj'; omega⟩
 | o :: rest, ms, fs, env, k, h, hJ, h1, h2, h3, h4 => by
  obtain ⟨hback, hok, e1, hs, hE, hr⟩ := Yab h
  have hok0 : ops[k]? = some o := by have := h3 0; simpa using this.symm
  have hanc : ∀ i, (ancMask ms o.after.toList).testBit i = true -> Anc ops k i := by
   intro i hi
   obtain ⟨e, he, hb, hc⟩ := Y45 hi
   have he' : e ∈ o.after := by simpa using he
   rcases hc with rfl | hc
   ·exact .edge hok0 he' hb
   ·exact .trans hok0 he' hb (h4 e.on (by have := hback e he hb; omega) i hc)
  let g := footG T sig TS ops o env
  obtain ⟨E, gs, k1, k2, k3, k4⟩ := Y5g (k := k + 1) hr (Yam hE) (by simp [h1]) (by simp [h2]) (fun m => by have := h3 (m + 1); rw [List.getElem?_cons_succ] at this; rw [this]; congr 1; omega) (fun j hj i hi => by
   by_cases hjk : j < k
   ·rw [List.getD_eq_getElem?_getD, List.getElem?_append_left (by omega), <- List.getD_eq_getElem?_getD] at hi
    exact h4 j hjk i hi
   ·have : j = k := by omega
    subst this
    rw [List.getD_eq_getElem?_getD, List.getElem?_append_right (by omega), h1, Nat.sub_self] at hi
    exact hanc i (by simpa using hi))
  have eapp : fs ++ [g] ++ gs = fs ++ (g :: gs) := by simp
  rw [eapp] at k2 k4
  have hgk : (fs ++ (g :: gs)).getD k none = g := by
   rw [List.getD_eq_getElem?_getD, List.getElem?_append_right (by omega), h2, Nat.sub_self]
   rfl
  refine ⟨E, g :: gs, by simp [k1], ?_, k3, fun j hj hj' => ?_⟩
  ·rw [List.length_cons, List.range'_succ]
   refine ⟨hJ, ?_, e1, ?_, k2⟩
   ·show footI T sig TS ops k env = _
    unfold footI
    rw [hok0]
    exact hgk.symm
   ·unfold stepI
    rw [hok0]
    exact hs
  ·by_cases hjk : j = k
   ·subst hjk
    refine ⟨fun o' ho' e he hbe => ?_, ?_⟩
    ·rw [hok0] at ho'
     simp only [Option.some.injEq] at ho'
     subst ho'
     have := hback e (by simpa using he) hbe
     omega
    ·unfold okStep at hok
     rw [Bool.or_eq_true] at hok
     rcases hok with hok | hok
     case inr =>
      right
      intro i hi
      rcases Y5f hok i (by omega) with h5 | h5
      ·exact .inl (hanc i h5)
      ·exact .inr h5
     left
     intro i hi
     rw [hgk]
     have hfi : fs[i]? = some (fs[i]'(by omega)) := List.getElem?_eq_getElem (by omega)
     have := Y79 hok i _ hfi
     rw [Nat.zero_add] at this
     rcases this with h5 | h5
     ·exact .inl (hanc i h5)
     ·right
      rw [List.getD_eq_getElem?_getD, List.getElem?_append_left (by omega), hfi]
      exact h5
   ·exact k4 j (by omega) (by simp only [List.length_cons] at hj'; omega)
theorem Ybo {o : Op} {xs : List Operand} (h : opsOf o = some xs) : (∀ cs b, o ≠ .select cs b) /\ ∀ x ∈ o.operands, x ∈ xs := by
 cases o <;> simp only [opsOf, Option.some.injEq] at h <;> try cases h
 case call c =>
  refine ⟨by simp, fun x hx => ?_⟩
  simp only [Op.operands, Call.operands, Array.mem_append] at hx
  split at h
  ·rename_i f hc
   rw [hc] at hx
   simp only [Option.some.injEq] at h
   subst h
   rcases hx with hx | hx
   ·simp only [List.mem_toArray, List.mem_singleton] at hx
    rw [hx]; simp
   ·exact List.mem_cons_of_mem _ (by simpa using hx)
  ·rename_i f hc
   rw [hc] at hx
   simp only [Option.some.injEq] at h
   subst h
   rcases hx with hx | hx
   ·simp at hx
   ·simpa using hx
  ·cases h
 all_goals (refine ⟨by simp, fun x hx => ?_⟩; first | (simp [Op.operands] at hx ⊢; done) | (simp [Op.operands] at hx ⊢; exact hx) | (simp [Op.operands] at hx ⊢; grind))
theorem Ybp {P : Program} {z : Oper} {x : Operand} (hb : bareOp z.op = some x) : (∃ f : Value -> Sem Value, (∀ (ρ : Operand -> Value), execOp ρ z = (do let u <- f (ρ x); pure (Next.value u))) /\ ∀ v, (∃ u, ∀ w, (f v).run P w = .ok u w) \/ ∀ w, ∃ h, (f v).run P w = .halt h w /\ ∀ p, h ≠ .panic p) := by
 unfold bareOp at hb
 split at hb
 ·rename_i y ho
  simp only [Option.some.injEq] at hb
  subst hb
  exact ⟨fun v => pure v, fun ρ => by simp [execOp, ho], fun v => .inl ⟨v, fun w => by simp⟩⟩
 ·rename_i y i ho
  simp only [Option.some.injEq] at hb
  subst hb
  refine ⟨fun v => Instr.extract v i, fun ρ => by simp [execOp, ho], fun v => ?_⟩
  cases v with
  | tuple vs =>
   cases hv : vs[i]? with
   | none => exact .inr fun w => ⟨_, by simp [Instr.extract, hv, stuck]; rfl, by simp⟩
   | some u => exact .inl ⟨u, fun w => by simp [Instr.extract, hv]⟩
  | _ => exact .inr fun w => ⟨_, by simp [Instr.extract, stuck]; rfl, by simp⟩
 ·cases hb
theorem Y9u (a : Act) {d d' : Option Tmp} (u v : Value) (h : d ≠ d' \/ d = none) : (a.put d u).put d' v = (a.put d' v).put d u := by
 cases d with
 | none => rfl
 | some d => cases d' with
  | none => rfl
  | some d' =>
   have hne : d ≠ d' := fun e => by rcases h with h | h <;> simp_all
   simp only [Act.put]
   congr 1
   exact Array.setIfInBounds_comm _ _ hne
theorem Yc9 {P : Program} {ops : Array Oper} {Q : Exit -> Act -> World -> Prop} {zi ki : Nat} {z k : Oper} {x : Operand} {d : Nat} {L : List Nat} (hz : ops[zi]? = some z) (hk : ops[ki]? = some k) (hb : bareOp z.op = some x) (hd : z.dst = some d) (hg : z.guard = none) (hs : swapOk ops d x k = true) (hp : ∀ c a w, ¬ Q (.panic c) a w) (hl : ¬ LetsOut Q) {a : Act} {w : World} (h : wpOps P ops Q (zi :: ki :: L) a w) : wpOps P ops Q (ki :: zi :: L) a w := by
 unfold swapOk at hs
 rw [Bool.and_eq_true, Bool.and_eq_true] at hs
 obtain ⟨s1, s2, s3⟩ := hs
 obtain ⟨f, f1, f2⟩ := Ybp (P := P) hb
 have wz : ∀ y, Region.wanted z y = true := fun y => by simp [Region.wanted, hg]
 simp only [wpOps, hz, hk, wz, if_true] at h ⊢
 have h := h.resolve_right (fun h => hl h.2)
 have runz : ∀ (a' : Act) (w' : World) u, (∀ w, (f (a'.eval x)).run P w = .ok u w) -> (execOp a'.eval z).run P w' = .ok (.value u) w' := fun a' w' u hu => by
  rw [f1]; simp [hu]
 have hval : ∃ u, ∀ w, (f (a.eval x)).run P w = .ok u w := by
  rcases f2 (a.eval x) with h' | h'
  ·exact h'
  ·exfalso
   obtain ⟨hh, e, hne⟩ := h' w
   unfold Oper.wp at h
   rw [f1] at h
   simp only [Sem.run_bind, e] at h
   cases hh <;> simp_all [Oper.upon, Result.andThen]
 obtain ⟨u, hu⟩ := hval
 unfold Oper.wp at h
 rw [runz a w u hu, Oper.upon_value, hd] at h
 -- what k reads is the same
 have hek : execOp (a.put (some d) u).eval k = execOp a.eval k := by
  split at s1
  ·rename_i xs ho
   obtain ⟨o1, o2⟩ := Ybo ho
   refine execOp_congr k o1 (fun y hy => ?_)
   have := List.all_eq_true.1 s1 y (o2 y hy)
   cases y with
   | tmp q =>
    have hne : d ≠ q := fun e => by rw [e] at this; simp [isTmp] at this
    rw [Y5, Y5]
    show (a.tmps.setIfInBounds d u).getD q undef = a.tmps.getD q undef
    rw [Y65, if_neg (fun e => hne e.1.symm)]
   | _ => rfl
  ·cases s1
 have hwk : Region.wanted k (yielded ops (a.put (some d) u).tmps) = Region.wanted k (yielded ops a.tmps) := by
  unfold Region.wanted
  cases hgk : k.guard with
  | none => rfl
  | some g =>
   obtain ⟨j, want⟩ := g
   rw [hgk] at s3
   simp only at s3 ⊢
   have : yielded ops (a.put (some d) u).tmps j = yielded ops a.tmps j := by
    unfold yielded
    cases hj : (ops[j]?).bind (·.dst) with
    | none => rfl
    | some dj =>
     rw [hj] at s3
     have hne : d ≠ dj := fun e => by rw [e] at s3; simp at s3
     simp only [Option.bind_some]
     show (match (a.tmps.setIfInBounds d u)[dj]? with | some (.bool b) => some b | _ => none) = _
     rw [Array.getElem?_setIfInBounds, if_neg hne]
     rfl
   rw [this]
 -- what z does behind k
 have hdk : k.dst ≠ some d /\ ∀ (a' : Act) v, (a'.put k.dst v).eval x = a'.eval x := by
  cases hdk : k.dst with
  | none => exact ⟨by simp, fun a' v => rfl⟩
  | some dk =>
   rw [hdk] at s2
   simp only [Bool.and_eq_true, Bool.not_eq_true'] at s2
   refine ⟨fun e => by simp only [Option.some.injEq] at e; rw [e] at s2; simp at s2, fun a' v => ?_⟩
   cases x with
   | tmp q =>
    have hne : dk ≠ q := fun e => by rw [e] at s2; simp [isTmp] at s2
    rw [Y5, Y5]
    show (a'.tmps.setIfInBounds dk v).getD q undef = a'.tmps.getD q undef
    rw [Y65, if_neg (fun e => hne e.1.symm)]
   | _ => rfl
 have back : ∀ (a' : Act) (w' : World), a'.eval x = a.eval x -> wpOps P ops Q L (a'.put (some d) u) w' -> (z.wp P a' w' (wpOps P ops Q L) Q \/ (z.asks P a' w' /\ LetsOut Q)) := fun a' w' e h => by
  left
  unfold Oper.wp
  rw [runz a' w' u (by rw [e]; exact hu), Oper.upon_value, hd]
  exact h
 have comm : ∀ (a' : Act) v, (a'.put (some d) u).put k.dst v = (a'.put k.dst v).put (some d) u := fun a' v => Y9u a' u v (.inl (fun e => hdk.1 e.symm))
 rw [hwk] at h
 split
 ·rename_i hw
  rw [if_pos hw] at h
  have h := h.resolve_right (fun h => hl h.2)
  left
  unfold Oper.wp at h ⊢
  rw [hek] at h
  generalize (execOp a.eval k).run P w = r at *
  cases r with
  | ok n w' =>
   cases n <;> simp only [Oper.upon] at h ⊢
   case value v => rw [comm] at h; exact back _ _ (hdk.2 _ _) h
   case skip => rw [comm] at h; exact back _ _ (hdk.2 _ _) h
   case defer dd =>
    have : ({ (a.put (some d) u) with defers := dd :: (a.put (some d) u).defers } : Act) = ({ a with defers := dd :: a.defers } : Act).put (some d) u := rfl
    rw [this, comm] at h
    exact back _ _ ((hdk.2 _ _).trans rfl) h
   case enter f' args =>
    refine Calls.mono h (fun e w'' he => ?_)
    cases e with
    | returned v => simp only at he ⊢; rw [comm] at he; exact back _ _ (hdk.2 _ _) he
    | panicked c => exact (hp _ _ _ he).elim
    | outgrown => exact he
   case row rw_ args =>
    refine Rows.mono h (fun v w'' he => ?_)
    rw [comm] at he
    exact back _ _ (hdk.2 _ _) he
  | halt x' w' =>
   cases x' <;> simp only [Oper.upon] at h ⊢
   exact (hp _ _ _ h).elim
 ·rename_i hw
  rw [if_neg hw, comm] at h
  exact back _ _ (hdk.2 _ _) h
def Swap (ops : Array Oper) (y c : Nat) : Prop := ∃ z k x d, ops[y]? = some z /\ ops[c]? = some k /\ bareOp z.op = some x /\ z.dst = some d /\ z.guard = none /\ swapOk ops d x k = true
theorem Yda {P : Program} {ops : Array Oper} {Q : Exit -> Act -> World -> Prop} {y : Nat} {L : List Nat} (hp : ∀ c a w, ¬ Q (.panic c) a w) (hl : ¬ LetsOut Q) : ∀ {C : List Nat}, (∀ c ∈ C, Swap ops y c) -> ∀ {a : Act} {w : World}, wpOps P ops Q (y :: (C ++ L)) a w -> wpOps P ops Q (C ++ y :: L) a w
 | [], _, a, w, h => h
 | c :: C, hC, a, w, h => by
  obtain ⟨z, k, x, d, h1, h2, h3, h4, h5, h6⟩ := hC c List.mem_cons_self
  have := Yc9 h1 h2 h3 h4 h5 h6 hp hl (L := C ++ L) h
  rw [List.cons_append, wpOps_cons] at *
  exact wpOp_mono (fun a w h => Yda hp hl (fun c hc => hC c (List.mem_cons_of_mem _ hc)) h) this
theorem Yca {P : Program} {ops : Array Oper} {Q : Exit -> Act -> World -> Prop} {L L' : List Nat} (h : ∀ a w, wpOps P ops Q L a w -> wpOps P ops Q L' a w) : ∀ {A : List Nat} {a : Act} {w : World}, wpOps P ops Q (A ++ L) a w -> wpOps P ops Q (A ++ L') a w
 | [], a, w, hh => h a w hh
 | x :: A, a, w, hh => by
  rw [List.cons_append, wpOps_cons] at *
  exact wpOp_mono (fun a w h' => Yca h h') hh
theorem Ybq {P : Program} {ops : Array Oper} {Q : Exit -> Act -> World -> Prop} {s : Nat} {T : List Nat} (hp : ∀ c a w, ¬ Q (.panic c) a w) (hl : ¬ LetsOut Q) : ∀ {l C : List Nat}, (∀ y ∈ l, y < s -> ∀ c ∈ C, Swap ops y c) -> l.Pairwise (fun c y => y < s -> ¬ c < s -> Swap ops y c) -> ∀ {a : Act} {w : World}, wpOps P ops Q (l.filter (fun y => decide (y < s)) ++ (C ++ (l.filter (fun y => !decide (y < s)) ++ T))) a w -> wpOps P ops Q (C ++ (l ++ T)) a w
 | [], C, _, _, a, w, h => by simpa using h
 | y :: l, C, hC, hpw, a, w, h => by
  obtain ⟨p1, p2⟩ := List.pairwise_cons.1 hpw
  by_cases hy : y < s
  ·rw [List.filter_cons_of_pos (by simpa using hy), List.filter_cons_of_neg (by simpa using hy), List.cons_append, wpOps_cons] at h
   rw [List.cons_append]
   refine Yda hp hl (hC y List.mem_cons_self hy) ?_
   rw [wpOps_cons]
   exact wpOp_mono (fun a w h' => Ybq hp hl (fun y' hy' => hC y' (List.mem_cons_of_mem _ hy')) p2 h') h
  ·rw [List.filter_cons_of_neg (by simpa using hy), List.filter_cons_of_pos (by simpa using hy)] at h
   have h2 : wpOps P ops Q (l.filter (fun y => decide (y < s)) ++ ((C ++ [y]) ++ (l.filter (fun y => !decide (y < s)) ++ T))) a w := by simpa [List.append_assoc] using h
   have := Ybq hp hl (C := C ++ [y]) (fun y' hy' hlt c hc => by
    rcases List.mem_append.1 hc with hc | hc
    ·exact hC y' (List.mem_cons_of_mem _ hy') hlt c hc
    ·rw [List.mem_singleton.1 hc]; exact p1 y' hy' hlt hy) p2 h2
   simpa [List.append_assoc] using this
noncomputable def fixO (hard : Nat -> Prop) : Nat -> List Nat -> List Nat := open Classical in fun
 | 0, l => l
 | _ + 1, [] => []
 | n + 1, a :: l => if hard a then fixO hard n (l.filter fun y => decide (y < a)) ++ a :: fixO hard n (l.filter fun y => !decide (y < a)) else a :: fixO hard n l
theorem Y38 {hard : Nat -> Prop} : ∀ (n : Nat) {l : List Nat}, List.Perm (fixO hard n l) l
 | 0, l => by rw [fixO]
 | n + 1, [] => by rw [fixO]
 | n + 1, a :: l => by
  rw [fixO]
  split
  ·refine (List.perm_middle).trans (List.Perm.cons a ?_)
   exact (List.Perm.append (Y38 n) (Y38 n)).trans (List.filter_append_perm _ l)
  ·exact List.Perm.cons a (Y38 n)
theorem Y6e {hard : Nat -> Prop} {n : Nat} {l : List Nat} {x : Nat} : x ∈ fixO hard n l ↔ x ∈ l := (Y38 n).mem_iff
theorem Y3w {hard : Nat -> Prop} {D : Nat -> Nat -> Prop} : ∀ (n : Nat) {l : List Nat}, l.length <= n -> l.Pairwise (fun b x => x < b -> ¬ hard b -> D x b) -> (fixO hard n l).Pairwise (fun b x => x < b -> D x b)
 | 0, l, hn, hp => by
  obtain rfl : l = [] := List.length_eq_zero_iff.1 (by omega)
  rw [fixO]; exact List.Pairwise.nil
 | n + 1, [], hn, hp => by rw [fixO]; exact List.Pairwise.nil
 | n + 1, a :: l, hn, hp => by
  obtain ⟨p1, p2⟩ := List.pairwise_cons.1 hp
  rw [fixO]
  simp only [List.length_cons] at hn
  split
  ·rename_i ha
   have m1 : ∀ z ∈ fixO hard n (l.filter fun y => decide (y < a)), z < a := fun z hz => by
    have := (List.mem_filter.1 (Y6e.1 hz)).2; simpa using this
   have m2 : ∀ z ∈ fixO hard n (l.filter fun y => !decide (y < a)), a <= z := fun z hz => by
    have := (List.mem_filter.1 (Y6e.1 hz)).2; simpa using this
   refine List.pairwise_append.2 ⟨Y3w n (by have := List.length_filter_le (fun y => decide (y < a)) l; omega) (p2.filter _), List.pairwise_cons.2 ⟨fun x hx hlt => ?_, Y3w n (by have := List.length_filter_le (fun y => !decide (y < a)) l; omega) (p2.filter _)⟩, fun z hz x hx hlt => ?_⟩
   ·have := m2 x hx; omega
   ·have h1 := m1 z hz
    rcases List.mem_cons.1 hx with rfl | hx
    ·omega
    ·have := m2 x hx; omega
  ·rename_i ha
   exact List.pairwise_cons.2 ⟨fun x hx hlt => p1 x (Y6e.1 hx) hlt ha, Y3w n (by omega) p2⟩
theorem Y5p {P : Program} {ops : Array Oper} {Q : Exit -> Act -> World -> Prop} {hard Fl : Nat -> Prop} (hp : ∀ c a w, ¬ Q (.panic c) a w) (hl : ¬ LetsOut Q) : ∀ (n : Nat) {l T : List Nat}, l.length <= n -> l.Pairwise (fun c y => y < c -> hard c -> Fl y) -> l.Pairwise (fun c y => y < c -> Fl y -> Swap ops y c) -> ∀ {a : Act} {w : World}, wpOps P ops Q (fixO hard n l ++ T) a w -> wpOps P ops Q (l ++ T) a w
 | 0, l, T, hn, h1, h2, a, w, h => by
  obtain rfl : l = [] := List.length_eq_zero_iff.1 (by omega)
  rw [fixO] at h; exact h
 | n + 1, [], T, hn, h1, h2, a, w, h => by rw [fixO] at h; exact h
 | n + 1, x :: l, T, hn, h1, h2, a, w, h => by
  obtain ⟨p1, q1⟩ := List.pairwise_cons.1 h1
  obtain ⟨p2, q2⟩ := List.pairwise_cons.1 h2
  simp only [List.length_cons] at hn
  rw [fixO] at h
  split at h
  ·rename_i hx
   rw [List.append_assoc, List.cons_append] at h
   have s1 := Y5p hp hl n (by have := List.length_filter_le (fun y => decide (y < x)) l; omega) (q1.filter _) (q2.filter _) h
   have s2 := Yca (A := l.filter (fun y => decide (y < x))) (L' := [x] ++ (l.filter (fun y => !decide (y < x)) ++ T)) (fun a w h => by
    rw [wpOps_cons] at h
    rw [List.singleton_append, wpOps_cons]
    exact wpOp_mono (fun a w h => Y5p hp hl n (by have := List.length_filter_le (fun y => !decide (y < x)) l; omega) (q1.filter _) (q2.filter _) h) h) s1
   have s3 := Ybq (C := [x]) hp hl (fun y hy hlt c hc => by rw [List.mem_singleton.1 hc]; exact p2 y hy hlt (p1 y hy hlt hx)) (q2.imp_of_mem (fun {c y} hc hy h hlt hnc => h (by omega) (p1 y hy hlt hx))) s2
   exact s3
  ·rw [List.cons_append, wpOps_cons] at h ⊢
   exact wpOp_mono (fun a w h => Y5p hp hl n (by omega) q1 q2 h) h
theorem Y5h {ops : Array Oper} {i d : Nat} {x : Operand} : ∀ {n : Nat}, floatTo ops i d x n = true -> ∀ m, m < n -> i < m -> ∀ k, ops[m]? = some k -> swapOk ops d x k = true \/ ∃ e ∈ k.after, Region.binds .any e = true /\ e.on = i
 | 0, _, m, hm, _, _, _ => by omega
 | n + 1, h, m, hm, him, k, hk => by
  simp only [floatTo, Bool.and_eq_true, Bool.or_eq_true, decide_eq_true_eq] at h
  by_cases e : m = n
  ·subst e
   rcases h.1 with h1 | h1
   ·omega
   ·rw [hk] at h1
    simp only [Bool.or_eq_true, List.any_eq_true, Bool.and_eq_true] at h1
    rcases h1 with h1 | ⟨e, he, hb, hi⟩
    ·exact .inl h1
    ·exact .inr ⟨e, by simpa using he, hb, Nat.eq_of_beq_eq_true hi⟩
  ·exact Y5h h.2 m (by omega) him k hk
theorem Yan : DrawHyp (R := R) T sig caps orc (drawReg T sig caps orc) := by
 intro ops env K r h t
 have hTS : AllJ (Fr (drawTS sig ops env)) env := by
  have : ∀ L : List DS, AllJ (Fr (firstOk env L)) env := by
   intro L
   induction L with
   | nil => exact fun r => ⟨Y9t rfl rfl _, fun hb => by simp [firstOk] at hb⟩
   | cons D L ih =>
    unfold firstOk
    split
    ·rename_i hE; exact Yam hE
    ·exact ih
  exact this _
 obtain ⟨E, gs, k1, k2, k3, k4⟩ := Y5g (k := 0) h hTS rfl rfl (fun m => by simp) (fun j hj => by omega)
 simp only [List.nil_append, Nat.zero_add, Array.length_toList, Nat.zero_le, true_implies] at k2 k4
 rw [<- List.range_eq_range'] at k2
 have hback : ∀ (i : Nat) (o : Oper), ops[i]? = some o -> ∀ e ∈ o.after, Region.binds .any e = true -> e.on < i := fun i o ho => (k4 i (Array.getElem?_eq_some_iff.1 ho).1).1 o ho
 have hunl : unl ops.size (Array.replicate ops.size false) = List.range ops.size := by
  unfold unl
  rw [List.filter_eq_self]
  intro i hi
  have := List.mem_range.1 hi
  simp [this]
 obtain ⟨g1, g2⟩ := Yal .any ops hback ops.size t (Array.replicate ops.size false) (by simp) (by rw [hunl]; simp)
 rw [hunl] at g1
 let π := Region.linearise .any ops t
 have hπ : π = Region.linearise.go .any ops ops.size t (Array.replicate ops.size false) [] := rfl
 rw [<- hπ] at g1 g2
 have hnd : π.Nodup := g1.symm.nodup List.nodup_range
 have hedge : ∀ (j : Nat) (o : Oper) (e : Edge), ops[j]? = some o -> e ∈ o.after -> Region.binds .any e = true -> ∀ (A B : List Nat), π = A ++ j :: B -> e.on ∈ A := by
  intro j o e ho he hb A B hAB
  rcases g2 A j B hAB o ho e he hb with h | h
  ·simp only [Array.getD_eq_getD_getElem?, Array.getElem?_replicate] at h
   split at h <;> simp at h
  ·exact h
 have hbefore : ∀ (j i : Nat), Anc ops j i -> ∀ (A B : List Nat), π = A ++ j :: B -> i ∈ A := by
  intro j i ha
  induction ha with
  | edge h1 h2 h3 =>
   intro A B e
   exact hedge _ _ _ h1 h2 h3 A B e
  | @trans j0 i0 o0 e0 h1 h2 h3 h4 ih =>
   intro A B e
   have h := hedge _ _ _ h1 h2 h3 A B e
   obtain ⟨A1, A2, rfl⟩ := List.append_of_mem h
   have := ih A1 (A2 ++ j0 :: B) (by rw [e]; simp [List.append_assoc])
   exact List.mem_append_left _ this
 have hsz : ∀ a ∈ π, a < ops.size := fun a ha => List.mem_range.1 (g1.subset ha)
 -- what comes later in π is no ancestor
 have pw : ∀ (D : Nat -> Nat -> Prop), (∀ (A B : List Nat) (c y : Nat), π = A ++ c :: B -> y ∈ B -> D c y) -> π.Pairwise D := by
  intro D hD
  have go : ∀ (A B : List Nat), π = A ++ B -> B.Pairwise D := by
   intro A B
   induction B generalizing A with
   | nil => intro _; exact List.Pairwise.nil
   | cons a B ih =>
    intro e
    exact List.pairwise_cons.2 ⟨fun x hx => hD A B a x e hx, ih (A ++ [a]) (by rw [e]; simp)⟩
  exact go [] π rfl
 have hlater : ∀ (A B : List Nat) (c y : Nat), π = A ++ c :: B -> y ∈ B -> ¬ Anc ops c y := fun A B c y e hy ha => by
  have h1 := hbefore c y ha A B e
  rw [e] at hnd
  exact (List.nodup_append.1 hnd).2.2 y h1 y (by simp [hy]) rfl
 let hard : Nat -> Prop := fun j => ¬ ∀ i, i < j -> Anc ops j i \/ Dis (gs.getD i none) (gs.getD j none)
 let Fl : Nat -> Prop := fun i => floatOk ops i = true
 let D : Nat -> Nat -> Prop := fun x b => Dis (gs.getD x none) (gs.getD b none)
 have hpr := Y3w (hard := hard) (D := D) π.length (Nat.le_refl _) (pw _ (fun A B c y e hy hlt hnh => by
  have := (Classical.not_not.1 hnh) y hlt
  exact this.resolve_left (hlater A B c y e hy)))
 have htr := Trace.reorder (Ydt ops) List.pairwise_lt_range ((Y38 (hard := hard) π.length).trans g1) hpr k2
 refine ⟨fixO hard π.length π, Y9s k3 htr, fun P Q a w hp hl h => ?_⟩
 have := Y5p (P := P) (Q := Q) (hard := hard) (Fl := Fl) (T := []) hp hl π.length (Nat.le_refl _) (pw _ (fun A B c y e hy hlt hh => ?_)) (pw _ (fun A B c y e hy hlt hf => ?_)) (a := a) (w := w) (by simpa using h)
 ·simpa using this
 ·have hc := hsz c (by rw [e]; simp)
  rcases (k4 c hc).2 with h' | h'
  ·exact absurd h' hh
  ·exact (h' y hlt).resolve_left (hlater A B c y e hy)
 ·have hc := hsz c (by rw [e]; simp)
  have hy' := hsz y (by rw [e]; simp [hy])
  have hf : floatOk ops y = true := hf
  unfold floatOk at hf
  rw [Array.getElem?_eq_getElem hy'] at hf
  simp only at hf
  split at hf
  ·rename_i x d hb hd
   simp only [Bool.and_eq_true, Option.isNone_iff_eq_none, Bool.not_eq_true'] at hf
   obtain ⟨hg, _, hft⟩ := hf
   rcases Y5h hft c hc hlt ops[c] (Array.getElem?_eq_getElem hc) with h' | ⟨e', he', hbe, hon⟩
   ·exact ⟨ops[y], ops[c], x, d, Array.getElem?_eq_getElem hy', Array.getElem?_eq_getElem hc, hb, hd, hg, h'⟩
   ·exfalso
    exact hlater A B c y e hy (hon ▸ Anc.edge (Array.getElem?_eq_getElem hc) he' hbe)
  ·cases hf
theorem Yac {P : Program} (hT : TabOk P T) (hO : OrcOk P sig orc) (hm : P.follows .mixedOrders = true) {fuel : Nat} {ann : Nat -> Option (List Nat)} {f : FuncId} {fn : Func} {code : Code} (hf : P.funcs[f]? = some fn) (hb : fn.body = some code) {sg : Sig} {args : List RV} {res : List (Σ t : Ty, t.D)} {KR : List (Σ t : Ty, t.D) -> Option R} {rr : R}
  (hmu : sg.muts = false) (hU : ∀ xs, KR xs = some rr -> xs = res) (h : evFn T sig caps orc (drawReg T sig caps orc) fuel ann sg fn code args KR = some rr) : FnSpec P f sg.results args res := Ydj hT hO hm Yan hf hb hmu hU h
end
end Go.FP

namespace Go.FP
inductive Dir where
 | l | r | t | f | b
 deriving DecidableEq, Inhabited
section
variable {R : Type} (T : Tab) (sig : FuncId -> Option Sig) (caps : FuncId -> List Ty) (orc : Orc)
def codeAt (fuel : Nat) (ann : Nat -> Option (List Nat)) : List Dir -> Nat -> Code -> (Exit -> Env -> Option R) -> List (Env -> Option R) -> Option (Nat × Code × (Exit -> Env -> Option R))
 | [], m, c, K, _ => some (m, c, K)
 | .l :: p, m, .seq a b, K, rs => codeAt fuel ann p m a (fun e env' => match e with
  | .normal => evCode T sig caps orc (drawReg T sig caps orc) fuel ann m b env' K
  | e => K e env') rs
 | .r :: p, m, .seq _ b, K, rs => codeAt fuel ann p m b K rs
 | .t :: p, m, .cond _ a _, K, rs => codeAt fuel ann p m a K rs
 | .f :: p, m, .cond _ _ b, K, rs => codeAt fuel ann p m b K rs
 | .b :: p, _, .block id c, K, rs => codeAt fuel ann p id c (fun e env' => match e with
  | .exit id' => if id' = id then K .normal env' else K e env'
  | e => K e env') rs
 | .b :: p, m, .loop c, K, rs => match ann m, rs with
  | some keep, rc :: rs => codeAt fuel ann p m c (fun e env' => match e with
   | .normal => rc (dropAll keep (List.range env'.length) env')
   | e => K e env') rs
  | _, _ => none
 | _, _, _, _, _ => none
def loopAt (fuel : Nat) (ann : Nat -> Option (List Nat)) (p : List Dir) (c : Code) (K : Exit -> Env -> Option R) (rs : List (Env -> Option R)) (k : Nat) (env : Env) : Option R :=
 match codeAt T sig caps orc fuel ann p 0 c K rs with
 | some (m, .loop c, K) => match ann m with
  | some keep => iter (fun rec env => evCode T sig caps orc (drawReg T sig caps orc) fuel ann m c env fun e env' => match e with
   | .normal => rec (dropAll keep (List.range env'.length) env')
   | e => K e env') k env
  | none => none
 | _ => none
end
end Go.FP

namespace Go.FP
inductive PC where
 | ro (t : Ty)
 | pin
 | self
 deriving DecidableEq
@[reducible] def AppS : List PC -> Type -> Type
 | [], β => β
 | .ro t :: cs, β => t.D -> AppS cs β
 | .pin :: cs, β => AppS cs β
 | .self :: cs, β => AppS cs β
inductive PS where
 | v (t : Ty)
 | p (t : Ty)
 | c (f : FuncId) (ts : List Ty)
 | s (f : FuncId) (cs : List PC)
 deriving DecidableEq
@[reducible] def App : List PS -> Type -> Type
 | [], β => β
 | .v t :: ps, β => t.D -> App ps β
 | .p t :: ps, β => t.D -> App ps β
 | .c _ ts :: ps, β => AppL ts (App ps β)
 | .s _ cs :: ps, β => AppS cs (App ps β)
where AppL : List Ty -> Type -> Type
 | [], β => β
 | t :: ts, β => t.D -> AppL ts β
def appC {β γ : Type} : (ts : List Ty) -> List (Σ t : Ty, t.D) -> App.AppL ts β -> (β -> Option γ) -> Option γ
 | [], [], F, k => k F
 | t :: ts, x :: xs, F, k => if h : x.1 = t then appC ts xs (F (h ▸ x.2)) k else none
 | _, _, _, _ => none
def appS {β γ : Type} : (cs : List PC) -> List RCap -> AppS cs β -> (β -> Option γ) -> Option γ
 | [], [], F, k => k F
 | .ro t :: cs, .ro x :: xs, F, k => if h : x.1 = t then appS cs xs (F (h ▸ x.2)) k else none
 | .pin :: cs, .pin :: xs, F, k => appS cs xs F k
 | .self :: cs, .self :: xs, F, k => appS cs xs F k
 | _, _, _, _ => none
def app {β : Type} : (ps : List PS) -> List RV -> App ps β -> Option β
 | [], [], F => some F
 | .v t :: ps, .val t' x :: as, F => if h : t' = t then app ps as (F (h ▸ x)) else none
 | .p t :: ps, .ptr t' x :: as, F => if h : t' = t then app ps as (F (h ▸ x)) else none
 | .c f ts :: ps, .clo f' xs :: as, F => if f' = f then appC ts xs F (fun G => app ps as G) else none
 | .s f cs :: ps, .fptr f' xs :: as, F => if f' = f then appS cs xs F (fun G => app ps as G) else none
 | _, _, _ => none
def OkC (β : Type) : (ts : List Ty) -> App.AppL ts β -> (List (Σ t : Ty, t.D) -> β -> Prop) -> Prop
 | [], F, Q => Q [] F
 | t :: ts, F, Q => ∀ x : t.D, OkC β ts (F x) (fun xs G => Q (⟨t, x⟩ :: xs) G)
def OkS (β : Type) : (cs : List PC) -> AppS cs β -> (List RCap -> β -> Prop) -> Prop
 | [], F, Q => Q [] F
 | .ro t :: cs, F, Q => ∀ x : t.D, OkS β cs (F x) (fun xs G => Q (.ro ⟨t, x⟩ :: xs) G)
 | .pin :: cs, F, Q => OkS β cs F (fun xs G => Q (.pin :: xs) G)
 | .self :: cs, F, Q => OkS β cs F (fun xs G => Q (.self :: xs) G)
def OkP (β : Type) : (ps : List PS) -> App ps β -> (List RV -> β -> Prop) -> Prop
 | [], F, Q => Q [] F
 | .v t :: ps, F, Q => ∀ x : t.D, OkP β ps (F x) (fun as G => Q (.val t x :: as) G)
 | .p t :: ps, F, Q => ∀ x : t.D, OkP β ps (F x) (fun as G => Q (.ptr t x :: as) G)
 | .c f ts :: ps, F, Q => OkC (App ps β) ts F (fun xs G => OkP β ps G (fun as H => Q (.clo f xs :: as) H))
 | .s f cs :: ps, F, Q => OkS (App ps β) cs F (fun xs G => OkP β ps G (fun as H => Q (.fptr f xs :: as) H))
theorem Yao {β γ : Type} : ∀ {ts : List Ty} {xs : List (Σ t : Ty, t.D)} {F : App.AppL ts β} {k : β -> Option γ} {g : γ} {Q : List (Σ t : Ty, t.D) -> β -> Prop}, OkC β ts F Q -> appC ts xs F k = some g -> ∃ G, Q xs G /\ k G = some g
 | [], [], F, k, g, Q, h, ha => ⟨F, h, ha⟩
 | t :: ts, ⟨t', x⟩ :: xs, F, k, g, Q, h, ha => by
  simp only [appC] at ha
  split at ha
  ·rename_i e
   subst e
   obtain ⟨G, h1, h2⟩ := Yao (h x) ha
   exact ⟨G, h1, h2⟩
  ·simp at ha
 | [], x :: xs, F, k, g, Q, h, ha => by simp [appC] at ha
 | t :: ts, [], F, k, g, Q, h, ha => by simp [appC] at ha
theorem Y5q {β γ : Type} : ∀ {cs : List PC} {xs : List RCap} {F : AppS cs β} {k : β -> Option γ} {g : γ} {Q : List RCap -> β -> Prop}, OkS β cs F Q -> appS cs xs F k = some g -> ∃ G, Q xs G /\ k G = some g
 | [], [], F, k, g, Q, h, ha => ⟨F, h, ha⟩
 | .ro t :: cs, .ro ⟨t', x⟩ :: xs, F, k, g, Q, h, ha => by
  simp only [appS] at ha
  split at ha
  ·rename_i e
   subst e
   obtain ⟨G, h1, h2⟩ := Y5q (h x) ha
   exact ⟨G, h1, h2⟩
  ·simp at ha
 | .pin :: cs, .pin :: xs, F, k, g, Q, h, ha => by
  simp only [appS] at ha
  obtain ⟨G, h1, h2⟩ := Y5q (Q := fun xs G => Q (.pin :: xs) G) h ha
  exact ⟨G, h1, h2⟩
 | .self :: cs, .self :: xs, F, k, g, Q, h, ha => by
  simp only [appS] at ha
  obtain ⟨G, h1, h2⟩ := Y5q (Q := fun xs G => Q (.self :: xs) G) h ha
  exact ⟨G, h1, h2⟩
 | [], x :: xs, F, k, g, Q, h, ha => by simp [appS] at ha
 | .ro t :: cs, [], F, k, g, Q, h, ha => by simp [appS] at ha
 | .ro t :: cs, .pin :: _, F, k, g, Q, h, ha => by simp [appS] at ha
 | .ro t :: cs, .self :: _, F, k, g, Q, h, ha => by simp [appS] at ha
 | .pin :: cs, [], F, k, g, Q, h, ha => by simp [appS] at ha
 | .pin :: cs, .ro _ :: _, F, k, g, Q, h, ha => by simp [appS] at ha
 | .pin :: cs, .self :: _, F, k, g, Q, h, ha => by simp [appS] at ha
 | .self :: cs, [], F, k, g, Q, h, ha => by simp [appS] at ha
 | .self :: cs, .ro _ :: _, F, k, g, Q, h, ha => by simp [appS] at ha
 | .self :: cs, .pin :: _, F, k, g, Q, h, ha => by simp [appS] at ha
theorem Y5i {β : Type} : ∀ {ps : List PS} {as : List RV} {F : App ps β} {g : β} {Q : List RV -> β -> Prop}, OkP β ps F Q -> app ps as F = some g -> Q as g
 | [], [], F, g, Q, h, ha => by simp only [app, Option.some.injEq] at ha; subst ha; exact h
 | .v t :: ps, .val t' x :: as, F, g, Q, h, ha => by
  simp only [app] at ha
  split at ha
  ·rename_i e
   subst e
   exact Y5i (Q := fun as G => Q (.val _ x :: as) G) (h x) ha
  ·simp at ha
 | .p t :: ps, .ptr t' x :: as, F, g, Q, h, ha => by
  simp only [app] at ha
  split at ha
  ·rename_i e
   subst e
   exact Y5i (Q := fun as G => Q (.ptr _ x :: as) G) (h x) ha
  ·simp at ha
 | .c f ts :: ps, .clo f' xs :: as, F, g, Q, h, ha => by
  simp only [app] at ha
  split at ha
  ·rename_i e
   subst e
   obtain ⟨G, h1, h2⟩ := Yao h ha
   exact Y5i (Q := fun as G => Q (.clo _ xs :: as) G) h1 h2
  ·simp at ha
 | [], _ :: _, F, g, Q, h, ha => by simp [app] at ha
 | .v t :: ps, [], F, g, Q, h, ha => by simp [app] at ha
 | .v t :: ps, .ptr _ _ :: _, F, g, Q, h, ha => by simp [app] at ha
 | .v t :: ps, .clo _ _ :: _, F, g, Q, h, ha => by simp [app] at ha
 | .p t :: ps, [], F, g, Q, h, ha => by simp [app] at ha
 | .p t :: ps, .val _ _ :: _, F, g, Q, h, ha => by simp [app] at ha
 | .p t :: ps, .clo _ _ :: _, F, g, Q, h, ha => by simp [app] at ha
 | .c f ts :: ps, [], F, g, Q, h, ha => by simp [app] at ha
 | .c f ts :: ps, .val _ _ :: _, F, g, Q, h, ha => by simp [app] at ha
 | .c f ts :: ps, .ptr _ _ :: _, F, g, Q, h, ha => by simp [app] at ha
 | .v t :: ps, .fptr _ _ :: _, F, g, Q, h, ha => by simp [app] at ha
 | .p t :: ps, .fptr _ _ :: _, F, g, Q, h, ha => by simp [app] at ha
 | .c f ts :: ps, .fptr _ _ :: _, F, g, Q, h, ha => by simp [app] at ha
 | .s f cs :: ps, .fptr f' xs :: as, F, g, Q, h, ha => by
  simp only [app] at ha
  split at ha
  ·rename_i e
   subst e
   obtain ⟨G, h1, h2⟩ := Y5q h ha
   exact Y5i (Q := fun as G => Q (.fptr _ xs :: as) G) h1 h2
  ·simp at ha
 | .s f cs :: ps, [], F, g, Q, h, ha => by simp [app] at ha
 | .s f cs :: ps, .val _ _ :: _, F, g, Q, h, ha => by simp [app] at ha
 | .s f cs :: ps, .ptr _ _ :: _, F, g, Q, h, ha => by simp [app] at ha
 | .s f cs :: ps, .clo _ _ :: _, F, g, Q, h, ha => by simp [app] at ha
def FnOk (P : Program) (f : FuncId) (sg : Sig) (args : List RV) (res : List (Σ t : Ty, t.D)) : Prop :=
 match sg.box with
 | some b => ∃ t x0 y ys, nthL args b.k = some (.ptr t x0) /\ res = ⟨t, y⟩ :: ys /\ FnSpecBox P f sg.results b t x0 args y ys
 | none => match sg.newb with
 | some id => ∃ t y, res = [⟨t, y⟩] /\ FnSpecNew P f id t args y
 | none => match sg.muts with
 | false => if sg.own then ∃ t x0, args = [.val t x0] /\ res = [⟨t, x0⟩] /\ FnSpecSh P f t x0 else FnSpec P f sg.results args res
 | true => if sg.own then ∃ t x0 rest y, args = .val t x0 :: rest /\ res = [⟨t, y⟩] /\ FnSpecOwn P f t x0 rest y else ∃ t x0 rest y ys, args = .val t x0 :: rest /\ res = ⟨t, y⟩ :: ys /\ FnSpecMut P f sg.results t x0 rest y ys
structure Entry (P : Program) where
 f : FuncId
 sg : Sig
 ps : List PS
 α : Type
 F : App ps (Option α)
 pk : α -> List (Σ t : Ty, t.D)
 en : Enterable P f
 ok : OkP (Option α) ps F (fun as q => ∀ x, q = some x -> FnOk P f sg as (pk x))
def orcL {P : Program} : List (Entry P) -> Orc
 | [], _, _ => none
 | e :: es, f, as => if f = e.f then (match app e.ps as e.F with
  | some q => some ⟨e.α, q, e.pk⟩
  | none => orcL es f as) else orcL es f as
def sigL {P : Program} : List (Entry P) -> FuncId -> Option Sig
 | [], _ => none
 | e :: es, f => if f = e.f then some e.sg else sigL es f
def agreeL {P : Program} : List (Entry P) -> Bool
 | [] => true
 | e :: es => (es.all fun e' => decide (e'.f = e.f -> e'.sg = e.sg)) && agreeL es
def capsL : List (FuncId × List Ty) -> FuncId -> List Ty
 | [], _ => []
 | p :: ps, f => if f = p.1 then p.2 else capsL ps f
theorem Y6f {P : Program} : ∀ {es : List (Entry P)} {f : FuncId} {as : List RV} {q : OrcRes}, orcL es f as = some q -> ∃ e ∈ es, f = e.f /\ ∃ g, app e.ps as e.F = some g /\ q = ⟨e.α, g, e.pk⟩
 | [], f, as, q, h => by simp [orcL] at h
 | e :: es, f, as, q, h => by
  simp only [orcL] at h
  split at h
  ·rename_i hf
   split at h
   ·rename_i g hg
    simp only [Option.some.injEq] at h
    exact ⟨e, List.mem_cons_self, hf, g, hg, h.symm⟩
   ·obtain ⟨e', h1, h2⟩ := Y6f h
    exact ⟨e', List.mem_cons_of_mem _ h1, h2⟩
  ·obtain ⟨e', h1, h2⟩ := Y6f h
   exact ⟨e', List.mem_cons_of_mem _ h1, h2⟩
theorem Y9v {P : Program} : ∀ {es : List (Entry P)} {f : FuncId} {sg : Sig}, agreeL es = true -> sigL es f = some sg -> ∀ e ∈ es, f = e.f -> e.sg = sg
 | [], f, sg, _, h, e, he, _ => by simp at he
 | e0 :: es, f, sg, ha, h, e, he, hf => by
  simp only [agreeL, Bool.and_eq_true, List.all_eq_true, decide_eq_true_eq] at ha
  simp only [sigL] at h
  split at h
  ·rename_i hf0
   simp only [Option.some.injEq] at h
   subst h
   rcases List.mem_cons.1 he with rfl | he
   ·rfl
   ·exact ha.1 e he (hf ▸ hf0)
  ·rename_i hf0
   rcases List.mem_cons.1 he with rfl | he
   ·exact absurd hf hf0
   ·exact Y9v ha.2 h e he hf
theorem Yap {P : Program} {es : List (Entry P)} (ha : agreeL es = true) : OrcOk P (sigL es) (orcL es) := by
 intro f sg args q x hs hq hx
 obtain ⟨e, he, hf, g, hg, rfl⟩ := Y6f hq
 have hsg := Y9v ha hs e he hf
 subst hsg
 subst hf
 exact ⟨e.en, Y5i e.ok hg x hx⟩
def un1 (t : Ty) : List (Σ t : Ty, t.D) -> Option t.D
 | [x] => if h : x.1 = t then some (h ▸ x.2) else none
 | _ => none
def un2 (t u : Ty) : List (Σ t : Ty, t.D) -> Option (t.D × u.D)
 | [x, y] => if h : x.1 = t then if k : y.1 = u then some (h ▸ x.2, k ▸ y.2) else none else none
 | _ => none
def pk1 (t : Ty) : t.D -> List (Σ t : Ty, t.D) := fun x => [⟨t, x⟩]
def pk2 (t u : Ty) : t.D × u.D -> List (Σ t : Ty, t.D) := fun x => [⟨t, x.1⟩, ⟨u, x.2⟩]
theorem Y2 (t : Ty) (r : t.D) : ∀ xs, un1 t xs = some r -> xs = pk1 t r := by
 intro xs h
 unfold un1 at h
 split at h
 ·rename_i x
  obtain ⟨u, x⟩ := x
  split at h
  ·rename_i e
   subst e
   simp only [Option.some.injEq] at h
   subst h
   rfl
  ·simp at h
 ·simp at h
theorem Y47 (t u : Ty) (r : t.D × u.D) : ∀ xs, un2 t u xs = some r -> xs = pk2 t u r := by
 intro xs h
 unfold un2 at h
 split at h
 ·rename_i x y
  obtain ⟨t', x⟩ := x
  obtain ⟨u', y⟩ := y
  split at h
  ·rename_i e
   subst e
   split at h
   ·rename_i e
    subst e
    simp only [Option.some.injEq] at h
    subst h
    rfl
   ·simp at h
  ·simp at h
 ·simp at h
theorem Y6g {P : Program} {T : Tab} {es : List (Entry P)} {caps : FuncId -> List Ty} (hT : TabOk P T) (ha : agreeL es = true) (hm : P.follows .mixedOrders = true) {fuel : Nat} {ann : Nat -> Option (List Nat)} {f : FuncId} {fn : Func} {code : Code} (hf : P.funcs[f]? = some fn) (hb : fn.body = some code) {sg : Sig} {args : List RV}
  {α : Type} {un : List (Σ t : Ty, t.D) -> Option α} {pk : α -> List (Σ t : Ty, t.D)} (hmu : (sg.box = none /\ sg.newb = none) /\ sg.muts = false /\ sg.own = false) (hu : ∀ r xs, un xs = some r -> xs = pk r) {q : Option α} (h : evFn T (sigL es) caps (orcL es) (drawReg T (sigL es) caps (orcL es)) fuel ann sg fn code args un = q) :
  ∀ x, q = some x -> FnOk P f sg args (pk x) := by
 intro x hx
 subst h
 unfold FnOk
 rw [hmu.1.1, hmu.1.2, hmu.2.1, hmu.2.2]
 exact Yac hT (Yap ha) hm hf hb hmu.2.1 (fun xs h => hu x xs h) hx
theorem Y84 {P : Program} {T : Tab} {es : List (Entry P)} {caps : FuncId -> List Ty} (hT : TabOk P T) (ha : agreeL es = true) (hm : P.follows .mixedOrders = true) {fuel : Nat} {ann : Nat -> Option (List Nat)} {f : FuncId} {fn : Func} {code : Code} (hf : P.funcs[f]? = some fn) (hb : fn.body = some code) {sg : Sig} {b : BoxSig} {t : Ty} {x0 : t.D} {args : List RV}
  {α : Type} {un : List (Σ t : Ty, t.D) -> Option α} {pk : α -> List (Σ t : Ty, t.D)} (hbx : sg.box = some b) (ht : nthL args b.k = some (.ptr t x0)) (hpk : ∀ r, ∃ y ys, pk r = ⟨t, y⟩ :: ys) (hu : ∀ r xs, un xs = some r -> xs = pk r) {q : Option α} (h : evFnB T (sigL es) caps (orcL es) (drawReg T (sigL es) caps (orcL es)) fuel ann sg b fn code args un = q) :
  ∀ x, q = some x -> FnOk P f sg args (pk x) := by
 intro x hx
 subst h
 unfold FnOk
 rw [hbx]
 obtain ⟨y, ys, e⟩ := hpk x
 exact ⟨t, x0, y, ys, ht, e, Yd0 hT (Yap ha) hm Yan hf hb ht (fun xs h => (hu x xs h).trans e) hx⟩
theorem Y1j {P : Program} {f : FuncId} {fn : Func} {code : Code} (hf : P.funcs[f]? = some fn) (hb : fn.body = some code) (hn : (fn.name == "runtime.NumGoroutine") = false) : Enterable P f := ⟨fn, hf, by rw [hb]; rfl, hn⟩
end Go.FP

namespace Go.FP
theorem TEOk.plain {P : Program} {e : TE} {i : TypeInfo} (h1 : P.info? e.id = some i) (h2 : i.size = e.ty.sz) (h3 : i.bytes = e.bytes) (h4 : i.zero = some (zeroVal e.ty)) (ha : e.ty.isAgg = false) (hn : e.fn = false) (hq : e.eq = false)
  (h5 : match e.ty with
   | .int k => P.underlying e.id = some (.int k)
   | .bool => P.underlying e.id = some .bool
   | .str => P.underlying e.id = some .string
   | .slice el _ => P.underlying e.id = some (.slice el)
   | _ => False) : TEOk P e := by
 refine ⟨fun h => (by rw [hn] at h; cases h), fun _ => ⟨i, h1, h2, h3, h4⟩, fun _ => ?_, fun _ h => (by rw [ha] at h; simp at h), fun h => by rw [hq] at h; cases h⟩
 obtain ⟨id, ty, bytes, fields, fn, eq⟩ := e
 cases ty with
 | unit => simp [Ty.isAgg] at ha
 | pair a b => simp [Ty.isAgg] at ha
 | _ => exact h5
def fieldsB : List Field -> List (Nat × TypeId) -> Bool
 | _, [] => true
 | f :: fs, p :: ps => Nat.beq f.offset p.1 && (Nat.beq f.type p.2 && fieldsB fs ps)
 | [], _ :: _ => false
theorem Y3q : ∀ {fs : List Field} {ps : List (Nat × TypeId)}, fieldsB fs ps = true -> ∀ (i off ft : Nat), ps[i]? = some (off, ft) -> ∃ f : Field, fs[i]? = some f /\ f.offset = off /\ f.type = ft
 | fs, [], h, i, off, ft, hi => by simp at hi
 | [], p :: ps, h, i, off, ft, hi => by simp [fieldsB] at h
 | f :: fs, p :: ps, h, i, off, ft, hi => by
  simp only [fieldsB, Bool.and_eq_true] at h
  obtain ⟨h1, h2, h3⟩ := h
  cases i with
  | zero =>
   simp only [List.getElem?_cons_zero, Option.some.injEq] at hi
   subst hi
   exact ⟨f, rfl, Nat.eq_of_beq_eq_true h1, Nat.eq_of_beq_eq_true h2⟩
  | succ i => simpa using Y3q h3 i off ft (by simpa using hi)
theorem TEOk.struct {P : Program} {e : TE} {i : TypeInfo} {fs : Array Field} {pl : List (Nat × Nat)} (h1 : P.info? e.id = some i) (h2 : i.size = e.ty.sz) (h3 : i.bytes = e.bytes) (h4 : i.zero = some (zeroVal e.ty)) (hu : P.underlying e.id = some (.struct fs)) (hf : fieldsB fs.toList e.fields = true)
  (hp : fs.toList.mapM (fun f => (P.info? f.type).map fun i => (f.offset, i.size)) = some pl) (ha : e.ty.isAgg = true) (hn : e.fn = false) (hq : e.eq = true -> (P.eqGuardType P.depth e.id = false /\ P.stoodInHeld e.id = false) /\ EqFs P fs.toList (flat e.ty) 0) : TEOk P e := by
 refine ⟨fun h => (by rw [hn] at h; cases h), fun _ => ⟨i, h1, h2, h3, h4⟩, fun _ => ?_, fun _ _ => ⟨fs, pl, hu, hp⟩, fun h => ⟨(hq h).1, fs, hu, (hq h).2⟩⟩
 obtain ⟨id, ty, bytes, fields, fn, eq⟩ := e
 simp only at ha hf hu ⊢
 cases ty with
 | unit => exact ⟨fs, hu, fun i off ft h => by obtain ⟨f, h1, h2⟩ := Y3q hf i off ft h; exact ⟨f, by simpa using h1, h2⟩⟩
 | pair a b => exact ⟨fs, hu, fun i off ft h => by obtain ⟨f, h1, h2⟩ := Y3q hf i off ft h; exact ⟨f, by simpa using h1, h2⟩⟩
 | _ => simp [Ty.isAgg] at ha
theorem TEOk.ofFn {P : Program} {e : TE} {i : TypeInfo} {z : Value} {ps rs : Array TypeId} {v : Bool} (h1 : P.info? e.id = some i) (h2 : i.size = 1) (h3 : i.zero = some z) (h4 : z.oneCell' = true) (h5 : P.underlying e.id = some (.func ps rs v)) (hn : e.fn = true) (hq : e.eq = false) : TEOk P e :=
 ⟨fun _ => ⟨i, z, ps, rs, v, h1, h2, h3, h4, h5⟩, fun h => by (rw [hn] at h; cases h), fun h => by (rw [hn] at h; cases h), fun h => by (rw [hn] at h; cases h), fun h => by (rw [hq] at h; cases h)⟩
theorem Ydm {P : Program} : TabOk P [] := fun e he => by simp at he
theorem Y9 {P : Program} {e : TE} {T : Tab} (h : TEOk P e) (hT : TabOk P T) : TabOk P (e :: T) := fun e' he => by
 rcases List.mem_cons.1 he with rfl | he
 ·exact h
 ·exact hT e' he
def un : Nat -> Env -> Env
 | 0, l => l
 | n + 1, l => .undef :: un n l
def lf (t : Ty) (x : t.D) (lv : Lvl) : Leaf := ⟨t, x, .at_ lv⟩
end Go.FP

namespace Go.FP
open Go.RowKit
def Wf : (t : Ty) -> t.D -> Prop
 | .int k, x => k.min <= x /\ x <= k.max
 | .bool, _ => True
 | .str, x => x.size <= maxLen
 | .slice _ t, x => x.length <= maxLen /\ ∀ y ∈ x, Wf t y
 | .unit, _ => True
 | .pair a b, x => Wf a x.1 /\ Wf b x.2
def fsB (g : Ty -> TypeId -> Bool) : Ty -> Nat -> List (Nat × TypeId) -> Bool
 | τ, off, [] => decide (τ = .unit)
 | τ, off, p :: ps => Nat.beq p.1 off && (match ps with
  | [] => g τ p.2 || (match τ with | .pair a .unit => g a p.2 | _ => false)
  | _ :: _ => (match τ with | .pair a b => g a p.2 && fsB g b (off + a.sz) ps | _ => false))
def tyB (T : Tab) : Nat -> Ty -> TypeId -> Bool
 | 0, _, _ => false
 | f + 1, τ, tid => match T.te tid with
  | none => false
  | some e => decide (e.ty = τ) && (match τ with
   | .slice el t => tyB T f t el && decide (0 < t.sz)
   | .pair a b => fsB (tyB T f) (.pair a b) 0 e.fields
   | .unit => fsB (tyB T f) .unit 0 e.fields
   | _ => true)
theorem Ycb {T : Tab} {f : Nat} {τ : Ty} {tid : TypeId} (h : tyB T f τ tid = true) : ∃ e, T.te tid = some e /\ e.ty = τ := by
 cases f with
 | zero => simp [tyB] at h
 | succ f =>
  simp only [tyB] at h
  split at h
  ·simp at h
  ·rename_i e he
   simp only [Bool.and_eq_true, decide_eq_true_eq] at h
   exact ⟨e, he, h.1⟩
theorem Y3r {P : Program} {T : Tab} (hT : TabOk P T) {f : Nat} {τ : Ty} {tid : TypeId} (h : tyB T f τ tid = true) : P.cellsOf tid = τ.sz := by
 obtain ⟨e, he, rfl⟩ := Ycb h
 obtain ⟨hm, rfl, hfn⟩ := Tab.te_mem he
 obtain ⟨i, h1, h2, _⟩ := (hT e hm).info hfn
 simp [Program.cellsOf, h1, h2]
section
variable {H : Type} {enc : TypeId × Value -> H} {P : Program} {w : World} {spare : Nat -> Bool} {held : Bool} {T : Tab}
theorem Y7a (hT : TabOk P T) {fuel : Nat} (ih : ∀ (f : Nat) (τ : Ty) (tid : TypeId) (cs : List Value) (d : DataW H × List MemPlace), tyB T f τ tid = true -> DataW.trod enc P w 0 spare held fuel tid cs = some d -> ∃ x, Rep (fun b => b < w.heap.size) w τ .ro cs x [] /\ Wf τ x) {cs : List Value} {f : Nat} :
  ∀ (ps : List (Nat × TypeId)) (τ : Ty) (off : Nat), fsB (tyB T f) τ off ps = true -> off + τ.sz <= cs.length -> (∀ p ∈ ps, ∃ d, DataW.trod enc P w 0 spare held fuel p.2 ((cs.drop p.1).take (P.cellsOf p.2)) = some d) ->
   ∃ x, Rep (fun b => b < w.heap.size) w τ .ro ((cs.drop off).take τ.sz) x [] /\ Wf τ x
 | [], τ, off, h, hl, hp => by
  simp only [fsB, decide_eq_true_eq] at h
  subst h
  exact ⟨(), ⟨by simp [Ty.sz], rfl⟩, trivial⟩
 | p :: ps, τ, off, h, hl, hp => by
  unfold fsB at h
  simp only [Bool.and_eq_true] at h
  obtain ⟨h1, h2⟩ := h
  have h1 := Nat.eq_of_beq_eq_true h1
  obtain ⟨d, hd⟩ := hp p (by simp)
  rw [h1] at hd
  cases ps with
  | nil =>
   simp only [Bool.or_eq_true] at h2
   rcases h2 with h2 | h2
   ·rw [Y3r hT h2] at hd
    exact ih _ _ _ _ _ h2 hd
   ·split at h2
    ·rename_i a
     rw [Y3r hT h2] at hd
     obtain ⟨x, k1, k2⟩ := ih _ _ _ _ _ h2 hd
     exact ⟨(x, ()), ⟨_, [], [], [], by simp [Ty.sz], rfl, k1, rfl, rfl⟩, k2, trivial⟩
    ·simp at h2
  | cons q ps =>
   simp only at h2
   split at h2
   ·rename_i a b
    simp only [Bool.and_eq_true] at h2
    obtain ⟨h2, h3⟩ := h2
    rw [Y3r hT h2] at hd
    obtain ⟨x, k1, k2⟩ := ih _ _ _ _ _ h2 hd
    simp only [Ty.sz] at hl
    obtain ⟨y, m1, m2⟩ := Y7a hT ih (q :: ps) b (off + a.sz) h3 (by omega) (fun p hp' => hp p (List.mem_cons_of_mem _ hp'))
    refine ⟨(x, y), ⟨_, _, [], [], ?_, rfl, k1, m1⟩, k2, m2⟩
    simp only [Ty.sz]
    rw [List.take_add, List.drop_drop]
   ·simp at h2
theorem Y6h {α β : Type} {g : α -> Option β} : ∀ {l : List α} {r : List β}, l.mapM g = some r -> ∀ a ∈ l, ∃ b, g a = some b
 | [], r, h, a, ha => by simp at ha
 | a0 :: l, r, h, a, ha => by
  simp only [List.mapM_cons, Option.pure_def, Option.bind_eq_bind, Option.bind_eq_some_iff] at h
  obtain ⟨b, hb, r', hr', _⟩ := h
  rcases List.mem_cons.1 ha with rfl | ha
  ·exact ⟨b, hb⟩
  ·exact Y6h hr' a ha
theorem Y85 {e : TypeId} {t : Ty} {a : Addr} (n0 : Nat) (hel : ∀ i, i < n0 -> ∃ cs x, cs.length = t.sz /\ (∀ j, j < t.sz -> w.cell? ((a.add (i * t.sz)).add j) = cs[j]?) /\ Rep (fun b => b < w.heap.size) w t .ro cs x [] /\ Wf t x) (hz : 0 < t.sz) :
  ∀ n, n <= n0 -> ∃ (xs : List Value) (x : List t.D), x.length = n /\ El (Rep (fun b => b < w.heap.size) w t .ro) t.sz xs x [] /\ (∀ y ∈ x, Wf t y) /\ ∀ j u, xs[j]? = some u -> a.block < w.heap.size /\ w.cell? (a.add j) = some u
 | 0, _ => ⟨[], [], rfl, ⟨rfl, rfl⟩, by simp, by simp⟩
 | n + 1, hn => by
  obtain ⟨xs, x, h1, h2, h3, h4⟩ := Y85 (e := e) n0 hel hz n (by omega)
  obtain ⟨cs, y, k1, k2, k3, k4⟩ := hel n (by omega)
  refine ⟨xs ++ cs, x ++ [y], by simp [h1], ?_, ?_, ?_⟩
  ·exact El.append h2 ⟨cs, [], [], [], by simp, k1, rfl, k3, rfl, rfl⟩
  ·intro z hz
   rcases List.mem_append.1 hz with hz | hz
   ·exact h3 z hz
   ·rw [List.mem_singleton.1 hz]; exact k4
  ·intro j u hu
   have hxl : xs.length = n * t.sz := by rw [h2.len, h1]
   by_cases hj : j < xs.length
   ·rw [List.getElem?_append_left hj] at hu
    exact h4 j u hu
   ·rw [List.getElem?_append_right (by omega)] at hu
    have hjl := (List.getElem?_eq_some_iff.1 hu).1
    have := k2 (j - xs.length) (by omega)
    rw [hu] at this
    have hadd : (a.add (n * t.sz)).add (j - xs.length) = a.add j := by
     rw [Addr.add_add, <- hxl]
     congr 1
     omega
    rw [hadd] at this
    have hlt := World.block_lt_of_cell? w _ this
    rw [Addr.add_block] at hlt
    exact ⟨hlt, this⟩
theorem Y6i (hT : TabOk P T) : ∀ (fuel f : Nat) (τ : Ty) (tid : TypeId) (cs : List Value) (d : DataW H × List MemPlace), tyB T f τ tid = true -> DataW.trod enc P w 0 spare held fuel tid cs = some d -> ∃ x, Rep (fun b => b < w.heap.size) w τ .ro cs x [] /\ Wf τ x
 | 0, f, τ, tid, cs, d, hb, h => by simp [DataW.trod] at h
 | fuel + 1, 0, τ, tid, cs, d, hb, h => by simp [tyB] at hb
 | fuel + 1, f + 1, τ, tid, cs, d, hb, h => by
  have hsz := Y3r hT hb
  simp only [tyB] at hb
  split at hb
  ·simp at hb
  rename_i e he
  simp only [Bool.and_eq_true, decide_eq_true_eq] at hb
  obtain ⟨hty, hb⟩ := hb
  obtain ⟨hm, hid, hfn⟩ := Tab.te_mem he
  have hd := (hT e hm).desc hfn
  rw [hid] at hd
  rw [hty] at hd
  unfold DataW.trod at h
  have hstruct : ∀ fs : Array Field, P.underlying tid = some (.struct fs) -> (∀ (i off ft : Nat), e.fields[i]? = some (off, ft) -> ∃ f : Field, fs[i]? = some f /\ f.offset = off /\ f.type = ft) -> fsB (tyB T f) τ 0 e.fields = true -> ∃ x, Rep (fun b => b < w.heap.size) w τ .ro cs x [] /\ Wf τ x := by
   intro fs hu hf hfs
   rw [hu] at h
   simp only at h
   split at h
   ·rename_i hl
    rw [hsz] at hl
    obtain ⟨r, hr, _⟩ := Option.map_eq_some_iff.1 h
    have hall := Y6h hr
    obtain ⟨x, k1, k2⟩ := Y7a hT (Y6i hT fuel) (cs := cs) e.fields τ 0 hfs (by omega) (fun p hp => by
     obtain ⟨i, hi⟩ := List.getElem?_of_mem hp
     obtain ⟨fd, g1, g2, g3⟩ := hf i p.1 p.2 hi
     obtain ⟨d, hd⟩ := hall fd (by rw [<- Array.getElem?_toList] at g1; exact List.mem_of_getElem? g1)
     rw [g2, g3] at hd
     exact ⟨d, hd⟩)
    rw [List.drop_zero, List.take_of_length_le (by omega)] at k1
    exact ⟨x, k1, k2⟩
   ·simp at h
  cases τ with
  | int k =>
   simp only at hd
   rw [hd] at h
   rcases cs with _ | ⟨v, _ | ⟨v2, tl⟩⟩
   ·simp at h
   ·cases v <;> simp at h
    obtain ⟨⟨rfl, h2⟩, _⟩ := h
    simp only [Lit.wf, Bool.and_eq_true, decide_eq_true_eq] at h2
    exact ⟨_, ⟨rfl, rfl⟩, h2⟩
   ·simp at h
  | bool =>
   simp only at hd
   rw [hd] at h
   rcases cs with _ | ⟨v, _ | ⟨v2, tl⟩⟩
   ·simp at h
   ·cases v <;> simp at h
    exact ⟨_, ⟨rfl, rfl⟩, trivial⟩
   ·simp at h
  | str =>
   simp only at hd
   rw [hd] at h
   rcases cs with _ | ⟨v, _ | ⟨v2, tl⟩⟩
   ·simp at h
   ·cases v <;> simp at h
    exact ⟨_, ⟨rfl, rfl⟩, h.1⟩
   ·simp at h
  | slice el t =>
   simp only [Bool.and_eq_true, decide_eq_true_eq] at hb
   obtain ⟨hb, hpos⟩ := hb
   simp only at hd
   rw [hd] at h
   rcases cs with _ | ⟨v, _ | ⟨v2, tl⟩⟩
   ·simp at h
   ·cases v with
    | slice A len cap =>
     cases A with
     | none =>
      have : len = 0 /\ cap = 0 := by
       split at h <;> simp_all
      obtain ⟨rfl, rfl⟩ := this
      exact ⟨[], ⟨.slice none 0 0, [], [], [], rfl, rfl, ⟨rfl, rfl⟩, rfl, none, 0, rfl, Nat.le_refl _, fun _ => rfl, by simp⟩, by simp, by simp⟩
     | some a =>
      simp only at h
      split at h
      case isFalse => simp at h
      rename_i hc
      obtain ⟨_, h1, h2⟩ := hc
      obtain ⟨elems, h3, _⟩ := Option.bind_eq_some_iff.1 h
      have hsz2 := Y3r hT hb
      have hall := Y6h h3
      obtain ⟨xs, x, k1, k2, k3, k4⟩ := Y85 (w := w) (e := el) (t := t) (a := a) len (fun i hi => by
       obtain ⟨d, hd⟩ := hall i (List.mem_range.2 hi)
       obtain ⟨ci, hci, hd⟩ := Option.bind_eq_some_iff.1 hd
       obtain ⟨_, g1, g2⟩ := World.cells?_some hci
       rw [hsz2] at g1 g2
       obtain ⟨x, m1, m2⟩ := Y6i hT fuel f t el ci d hb hd
       exact ⟨ci, x, g1, g2, m1, m2⟩) hpos len (Nat.le_refl _)
      refine ⟨x, ⟨.slice (some a) len cap, xs, [], [], rfl, rfl, k2, rfl, some a, cap, by rw [k1], by rw [k1]; exact h1, fun h => by simp at h, fun j u hu => ?_⟩, by show x.length <= maxLen; omega, k3⟩
      obtain ⟨m1, m2⟩ := k4 j u hu
      exact ⟨a, rfl, m1, m2⟩
    | _ => simp at h
   ·simp at h
  | unit =>
   simp only at hd hb
   obtain ⟨fs, hu, hf⟩ := hd
   exact hstruct fs hu hf hb
  | pair a b =>
   simp only at hd hb
   obtain ⟨fs, hu, hf⟩ := hd
   exact hstruct fs hu hf hb
end
end Go.FP

namespace Go.FP
open Go.RowKit Go.WideShapes
theorem Y4k {H : Type} {enc : TypeId × Value -> H} {P : Program} {w : World} {spare : Nat -> Bool} {held : Bool} {T : Tab} (hT : TabOk P T) {r : Go.Reach} {b0 f : Nat} {τ : Ty} {tid : TypeId} (hb : tyB T f τ tid = true) {v : Value} (hval : Value.okWide P w r b0 tid v) {d : DataW H} {ps : List MemPlace} (hd : DataW.Trod enc P w 0 spare held tid v d ps) :
  ∃ x, RVRel (fun b => b < w.heap.size) w (.val τ x) v /\ Wf τ x := by
 obtain ⟨fuel, hf⟩ := hd
 obtain ⟨x, h1, h2⟩ := Y6i hT _ _ _ _ _ _ hb hf
 refine ⟨x, ⟨v.cells.toList, ?_, h1⟩, h2⟩
 obtain ⟨e, he, rfl⟩ := Ycb hb
 obtain ⟨hm, rfl, hfn⟩ := Tab.te_mem he
 have hd := (hT e hm).desc hfn
 cases hτ : e.ty with
 | int k => rw [hτ] at hd; obtain ⟨n, rfl⟩ := okWide_int hd hval; rfl
 | bool => rw [hτ] at hd; obtain ⟨n, rfl⟩ := okWide_bool hd hval; rfl
 | str => rw [hτ] at hd; obtain ⟨n, rfl⟩ := okWide_string hd hval; rfl
 | slice el t => rw [hτ] at hd; obtain ⟨a, l, c, rfl⟩ := okWide_slice hd hval; rfl
 | unit =>
  rw [hτ] at hd
  obtain ⟨fs, hu, _⟩ := hd
  simp only [Value.okWide, hu] at hval
  obtain ⟨cs, rfl, _⟩ := hval
  simp [mkV, Ty.isAgg, Value.cells]
 | pair a b =>
  rw [hτ] at hd
  obtain ⟨fs, hu, _⟩ := hd
  simp only [Value.okWide, hu] at hval
  obtain ⟨cs, rfl, _⟩ := hval
  simp [mkV, Ty.isAgg, Value.cells]
theorem Yd3 {P : Program} {f : FuncId} {fr : Lvl} {args : List RV} {vals : List Value} {w : World} (hs : FnSpec P f [(.bool, fr)] args [⟨.bool, true⟩]) (hv : RVRels (fun b => b < w.heap.size) w args vals) :
  Calls P f vals.toArray w fun e w' => e = .returned (.bool true) /\ Below w.heap.size w w' := by
 refine (hs _ w vals hv).mono fun e w' ⟨chs, bs, he, hb, hr, _⟩ => ⟨?_, hb⟩
 obtain ⟨x, xs', ch, chs', b, b', e1, e2, e3, h1, h2⟩ := hr
 simp only [List.cons.injEq, Sigma.mk.injEq, heq_eq_eq, true_and] at e1
 obtain ⟨rfl, rfl⟩ := e1
 obtain ⟨_, rfl, rfl⟩ := h2
 have hch : ch = [.bool true] := by
  cases fr <;> exact h1.1
 rw [he, e2, hch]
 rfl
end Go.FP
