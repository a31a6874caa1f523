/- How Go values lie in memory, and an evaluator of code with its soundness (part 6 of 7). Conditions: those that stand in each theorem; nothing is assumed of any program. -/
import Derived.Test.YtonpdomdcgfpfaaGreatFpE
import Derived.KernelRfl
import Derived.ProofKit
import Derived.ChangeOld
import Derived.WideShapes
import Derived.ChangeMaps5

set_option linter.unusedVariables false
set_option linter.unusedSimpArgs false
set_option linter.unnecessarySimpa false

namespace Go.FP
open Go.RowKit
inductive Anc (ops : Array Oper) : Nat -> Nat -> Prop
 | edge {j : Nat} {o : Oper} {e : Edge} (h1 : ops[j]? = some o) (h2 : e ∈ o.after) (h3 : Region.binds .any e = true) : Anc ops j e.on
 | trans {j i : Nat} {o : Oper} {e : Edge} (h1 : ops[j]? = some o) (h2 : e ∈ o.after) (h3 : Region.binds .any e = true) (h4 : Anc ops e.on i) : Anc ops j i
theorem Y4e {ms : List Nat} {i : Nat} : ∀ {l : List Edge}, (ancMask ms l).testBit i = true -> ∃ e ∈ l, Region.binds .any e = true /\ (e.on = i \/ (ms.getD e.on 0).testBit i = true)
 | [], h => by simp [ancMask] at h
 | e :: l, h => by
  unfold ancMask at h
  split at h
  ·rename_i hb
   rw [Nat.testBit_or, Nat.testBit_or, Nat.testBit_two_pow] at h
   simp only [Bool.or_eq_true, decide_eq_true_eq] at h
   rcases h with (h | h) | h
   ·exact ⟨e, by simp, hb, .inl h⟩
   ·exact ⟨e, by simp, hb, .inr h⟩
   ·obtain ⟨e', h1, h2⟩ := Y4e h
    exact ⟨e', by simp [h1], h2⟩
  ·obtain ⟨e', h1, h2⟩ := Y4e h
   exact ⟨e', by simp [h1], h2⟩
theorem Y3o {t : Nat} : ∀ {l : List Nat}, notIn t l = true -> t ∉ l
 | [], _ => by simp
 | x :: l, h => by
  simp only [notIn, Bool.and_eq_true, Bool.not_eq_true'] at h
  have h1 : x ≠ t := fun e => by rw [e] at h; simp at h
  simp only [List.mem_cons, not_or]
  exact ⟨fun e => h1 e.symm, Y3o h.2⟩
theorem Yc4 {f g : Foot} (h : disB f g = true) : Dis f g := by
 cases f with
 | none => simp [disB] at h
 | some p => cases g with
  | none => simp [disB] at h
  | some q =>
   obtain ⟨W, R⟩ := p
   obtain ⟨W', R'⟩ := q
   simp only [disB, Bool.and_eq_true, List.all_eq_true] at h
   exact ⟨fun w hw => ⟨Y3o (h.1 w hw).1, Y3o (h.1 w hw).2⟩, fun w hw => Y3o (h.2 w hw)⟩
theorem Y7b {mask : Nat} {g : Foot} : ∀ {fs : List Foot} {i : Nat}, okAll mask i fs g = true -> ∀ k f, fs[k]? = some f -> mask.testBit (i + k) = true \/ Dis f g
 | [], i, _, k, f, hk => by simp at hk
 | f0 :: fs, i, h, k, f, hk => by
  simp only [okAll, Bool.and_eq_true, Bool.or_eq_true] at h
  cases k with
  | zero =>
   simp only [List.getElem?_cons_zero, Option.some.injEq] at hk
   subst hk
   exact h.1.imp (fun h => h) Yc4
  | succ k =>
   have := Y7b h.2 k f (by simpa using hk)
   rwa [show i + 1 + k = i + (k + 1) by omega] at this
section
variable {R : Type} {T : Tab} {sig : FuncId -> Option Sig} {caps : FuncId -> List Ty} {orc : Orc}
theorem Y9u {TS : DS} (h1 : TS.ts = []) (h2 : TS.bx = []) (v : AV) : v.free TS = true := by simp [AV.free, h1, h2]
theorem Yal {TS : DS} {env : Env} (h : okE TS env = true) : AllJ (Fr TS) env := by
 unfold okE at h
 rw [Bool.or_eq_true] at h
 intro r
 rcases h with h | h
 ·rw [Bool.and_eq_true] at h
  exact ⟨Y9u (List.isEmpty_iff.1 h.1) (List.isEmpty_iff.1 h.2) _, fun hb => by rw [List.isEmpty_iff.1 h.2] at hb; simp at hb⟩
 ·have key : ∀ {l : Env}, l.all (AV.free TS) = true -> ∀ r, (get l r).free TS = true := by
   intro l
   induction l with
   | nil => intro _ r; simp [get, AV.free, AV.refs, AV.ptrs]
   | cons v l ih =>
    intro hl r
    simp only [List.all_cons, Bool.and_eq_true] at hl
    cases r with
    | zero => exact hl.1
    | succ r => exact ih hl.2 r
  rw [Bool.and_eq_true] at h
  exact ⟨key h.1 r, fun hb => List.all_eq_true.1 h.2 r hb⟩
theorem Y5n {ops : Array Oper} {mask : Nat} : ∀ {n : Nat}, okFloat ops mask n = true -> ∀ i, i < n -> mask.testBit i = true \/ floatOk ops i = true
 | 0, _, i, hi => by omega
 | n + 1, h, i, hi => by
  simp only [okFloat, Bool.and_eq_true, Bool.or_eq_true] at h
  by_cases e : i = n
  ·subst e; exact h.1
  ·exact Y5n h.2 i (by omega)
theorem Y5o {TS : DS} {ops : Array Oper} {K : Env -> Option R} {r : R} : ∀ {rest : List Oper} {ms : List Nat} {fs : List Foot} {env : Env} {k : Nat}, evDraw T sig caps orc TS ops rest ms fs env K = some r -> AllJ (Fr TS) env -> ms.length = k -> fs.length = k -> (∀ m, rest[m]? = ops[k + m]?) ->
  (∀ j, j < k -> ∀ i, (ms.getD j 0).testBit i = true -> Anc ops j i) ->
  ∃ (E : Env) (gs : List Foot), gs.length = rest.length /\ Trace (Fr TS) (stepI T sig caps orc ops) (footI T sig TS ops) (List.range' k rest.length) env E (fun i => (fs ++ gs).getD i none) /\ K E = some r /\
   (∀ j, k <= j -> j < k + rest.length -> (∀ o, ops[j]? = some o -> ∀ e ∈ o.after, Region.binds .any e = true -> e.on < j) /\ ((∀ i, i < j -> Anc ops j i \/ Dis ((fs ++ gs).getD i none) ((fs ++ gs).getD j none)) \/ ∀ i, i < j -> Anc ops j i \/ floatOk ops i = true))
 | [], ms, fs, env, k, h, hJ, h1, h2, h3, h4 => by
  exact ⟨env, [], rfl, ⟨hJ, rfl⟩, h, fun j hj hj' => by simp at hj'; omega⟩
 | o :: rest, ms, fs, env, k, h, hJ, h1, h2, h3, h4 => by
  obtain ⟨hback, hok, e1, hs, hE, hr⟩ := Yae h
  have hok0 : ops[k]? = some o := by have := h3 0; simpa using this.symm
  have hanc : ∀ i, (ancMask ms o.after.toList).testBit i = true -> Anc ops k i := by
   intro i hi
   obtain ⟨e, he, hb, hc⟩ := Y4e hi
   have he' : e ∈ o.after := by simpa using he
   rcases hc with rfl | hc
   ·exact .edge hok0 he' hb
   ·exact .trans hok0 he' hb (h4 e.on (by have := hback e he hb; omega) i hc)
  let g := footG T sig TS ops o env
  obtain ⟨E, gs, k1, k2, k3, k4⟩ := Y5o (k := k + 1) hr (Yal hE) (by simp [h1]) (by simp [h2]) (fun m => by have := h3 (m + 1); rw [List.getElem?_cons_succ] at this; rw [this]; congr 1; omega) (fun j hj i hi => by
   by_cases hjk : j < k
   ·rw [List.getD_eq_getElem?_getD, List.getElem?_append_left (by omega), <- List.getD_eq_getElem?_getD] at hi
    exact h4 j hjk i hi
   ·have : j = k := by omega
    subst this
    rw [List.getD_eq_getElem?_getD, List.getElem?_append_right (by omega), h1, Nat.sub_self] at hi
    exact hanc i (by simpa using hi))
  have eapp : fs ++ [g] ++ gs = fs ++ (g :: gs) := by simp
  rw [eapp] at k2 k4
  have hgk : (fs ++ (g :: gs)).getD k none = g := by
   rw [List.getD_eq_getElem?_getD, List.getElem?_append_right (by omega), h2, Nat.sub_self]
   rfl
  refine ⟨E, g :: gs, by simp [k1], ?_, k3, fun j hj hj' => ?_⟩
  ·rw [List.length_cons, List.range'_succ]
   refine ⟨hJ, ?_, e1, ?_, k2⟩
   ·show footI T sig TS ops k env = _
    unfold footI
    rw [hok0]
    exact hgk.symm
   ·unfold stepI
    rw [hok0]
    exact hs
  ·by_cases hjk : j = k
   ·subst hjk
    refine ⟨fun o' ho' e he hbe => ?_, ?_⟩
    ·rw [hok0] at ho'
     simp only [Option.some.injEq] at ho'
     subst ho'
     have := hback e (by simpa using he) hbe
     omega
    ·unfold okStep at hok
     rw [Bool.or_eq_true] at hok
     rcases hok with hok | hok
     case inr =>
      right
      intro i hi
      rcases Y5n hok i (by omega) with h5 | h5
      ·exact .inl (hanc i h5)
      ·exact .inr h5
     left
     intro i hi
     rw [hgk]
     have hfi : fs[i]? = some (fs[i]'(by omega)) := List.getElem?_eq_getElem (by omega)
     have := Y7b hok i _ hfi
     rw [Nat.zero_add] at this
     rcases this with h5 | h5
     ·exact .inl (hanc i h5)
     ·right
      rw [List.getD_eq_getElem?_getD, List.getElem?_append_left (by omega), hfi]
      exact h5
   ·exact k4 j (by omega) (by simp only [List.length_cons] at hj'; omega)
theorem Ybm {o : Op} {xs : List Operand} (h : opsOf o = some xs) : (∀ cs b, o ≠ .select cs b) /\ ∀ x ∈ o.operands, x ∈ xs := by
 cases o <;> simp only [opsOf, Option.some.injEq] at h <;> try cases h
 case call c =>
  refine ⟨by simp, fun x hx => ?_⟩
  simp only [Op.operands, Call.operands, Array.mem_append] at hx
  split at h
  ·rename_i f hc
   rw [hc] at hx
   simp only [Option.some.injEq] at h
   subst h
   rcases hx with hx | hx
   ·simp only [List.mem_toArray, List.mem_singleton] at hx
    rw [hx]; simp
   ·exact List.mem_cons_of_mem _ (by simpa using hx)
  ·rename_i f hc
   rw [hc] at hx
   simp only [Option.some.injEq] at h
   subst h
   rcases hx with hx | hx
   ·simp at hx
   ·simpa using hx
  ·cases h
 all_goals (refine ⟨by simp, fun x hx => ?_⟩; first | (simp [Op.operands] at hx ⊢; done) | (simp [Op.operands] at hx ⊢; exact hx) | (simp [Op.operands] at hx ⊢; grind))
theorem Ybn {P : Program} {z : Oper} {x : Operand} (hb : bareOp z.op = some x) : (∃ f : Value -> Sem Value, (∀ (ρ : Operand -> Value), execOp ρ z = (do let u <- f (ρ x); pure (Next.value u))) /\ ∀ v, (∃ u, ∀ w, (f v).run P w = .ok u w) \/ ∀ w, ∃ h, (f v).run P w = .halt h w /\ ∀ p, h ≠ .panic p) := by
 unfold bareOp at hb
 split at hb
 ·rename_i y ho
  simp only [Option.some.injEq] at hb
  subst hb
  exact ⟨fun v => pure v, fun ρ => by simp [execOp, ho], fun v => .inl ⟨v, fun w => by simp⟩⟩
 ·rename_i y i ho
  simp only [Option.some.injEq] at hb
  subst hb
  refine ⟨fun v => Instr.extract v i, fun ρ => by simp [execOp, ho], fun v => ?_⟩
  cases v with
  | tuple vs =>
   cases hv : vs[i]? with
   | none => exact .inr fun w => ⟨_, by simp [Instr.extract, hv, stuck]; rfl, by simp⟩
   | some u => exact .inl ⟨u, fun w => by simp [Instr.extract, hv]⟩
  | _ => exact .inr fun w => ⟨_, by simp [Instr.extract, stuck]; rfl, by simp⟩
 ·cases hb
theorem Y9v (a : Act) {d d' : Option Tmp} (u v : Value) (h : d ≠ d' \/ d = none) : (a.put d u).put d' v = (a.put d' v).put d u := by
 cases d with
 | none => rfl
 | some d => cases d' with
  | none => rfl
  | some d' =>
   have hne : d ≠ d' := fun e => by rcases h with h | h <;> simp_all
   simp only [Act.put]
   congr 1
   exact Array.setIfInBounds_comm _ _ hne
theorem Yc5 {P : Program} {ops : Array Oper} {Q : Exit -> Act -> World -> Prop} {zi ki : Nat} {z k : Oper} {x : Operand} {d : Nat} {L : List Nat} (hz : ops[zi]? = some z) (hk : ops[ki]? = some k) (hb : bareOp z.op = some x) (hd : z.dst = some d) (hg : z.guard = none) (hs : swapOk ops d x k = true) (hp : ∀ c a w, ¬ Q (.panic c) a w) (hl : ¬ LetsOut Q) {a : Act} {w : World} (h : wpOps P ops Q (zi :: ki :: L) a w) : wpOps P ops Q (ki :: zi :: L) a w := by
 unfold swapOk at hs
 rw [Bool.and_eq_true, Bool.and_eq_true] at hs
 obtain ⟨s1, s2, s3⟩ := hs
 obtain ⟨f, f1, f2⟩ := Ybn (P := P) hb
 have wz : ∀ y, Region.wanted z y = true := fun y => by simp [Region.wanted, hg]
 simp only [wpOps, hz, hk, wz, if_true] at h ⊢
 have h := h.resolve_right (fun h => hl h.2)
 have runz : ∀ (a' : Act) (w' : World) u, (∀ w, (f (a'.eval x)).run P w = .ok u w) -> (execOp a'.eval z).run P w' = .ok (.value u) w' := fun a' w' u hu => by
  rw [f1]; simp [hu]
 have hval : ∃ u, ∀ w, (f (a.eval x)).run P w = .ok u w := by
  rcases f2 (a.eval x) with h' | h'
  ·exact h'
  ·exfalso
   obtain ⟨hh, e, hne⟩ := h' w
   unfold Oper.wp at h
   rw [f1] at h
   simp only [Sem.run_bind, e] at h
   cases hh <;> simp_all [Oper.upon, Result.andThen]
 obtain ⟨u, hu⟩ := hval
 unfold Oper.wp at h
 rw [runz a w u hu, Oper.upon_value, hd] at h
 -- what k reads is the same
 have hek : execOp (a.put (some d) u).eval k = execOp a.eval k := by
  split at s1
  ·rename_i xs ho
   obtain ⟨o1, o2⟩ := Ybm ho
   refine execOp_congr k o1 (fun y hy => ?_)
   have := List.all_eq_true.1 s1 y (o2 y hy)
   cases y with
   | tmp q =>
    have hne : d ≠ q := fun e => by rw [e] at this; simp [isTmp] at this
    rw [Y6, Y6]
    show (a.tmps.setIfInBounds d u).getD q undef = a.tmps.getD q undef
    rw [Y67, if_neg (fun e => hne e.1.symm)]
   | _ => rfl
  ·cases s1
 have hwk : Region.wanted k (yielded ops (a.put (some d) u).tmps) = Region.wanted k (yielded ops a.tmps) := by
  unfold Region.wanted
  cases hgk : k.guard with
  | none => rfl
  | some g =>
   obtain ⟨j, want⟩ := g
   rw [hgk] at s3
   simp only at s3 ⊢
   have : yielded ops (a.put (some d) u).tmps j = yielded ops a.tmps j := by
    unfold yielded
    cases hj : (ops[j]?).bind (·.dst) with
    | none => rfl
    | some dj =>
     rw [hj] at s3
     have hne : d ≠ dj := fun e => by rw [e] at s3; simp at s3
     simp only [Option.bind_some]
     show (match (a.tmps.setIfInBounds d u)[dj]? with | some (.bool b) => some b | _ => none) = _
     rw [Array.getElem?_setIfInBounds, if_neg hne]
     rfl
   rw [this]
 -- what z does behind k
 have hdk : k.dst ≠ some d /\ ∀ (a' : Act) v, (a'.put k.dst v).eval x = a'.eval x := by
  cases hdk : k.dst with
  | none => exact ⟨by simp, fun a' v => rfl⟩
  | some dk =>
   rw [hdk] at s2
   simp only [Bool.and_eq_true, Bool.not_eq_true'] at s2
   refine ⟨fun e => by simp only [Option.some.injEq] at e; rw [e] at s2; simp at s2, fun a' v => ?_⟩
   cases x with
   | tmp q =>
    have hne : dk ≠ q := fun e => by rw [e] at s2; simp [isTmp] at s2
    rw [Y6, Y6]
    show (a'.tmps.setIfInBounds dk v).getD q undef = a'.tmps.getD q undef
    rw [Y67, if_neg (fun e => hne e.1.symm)]
   | _ => rfl
 have back : ∀ (a' : Act) (w' : World), a'.eval x = a.eval x -> wpOps P ops Q L (a'.put (some d) u) w' -> (z.wp P a' w' (wpOps P ops Q L) Q \/ (z.asks P a' w' /\ LetsOut Q)) := fun a' w' e h => by
  left
  unfold Oper.wp
  rw [runz a' w' u (by rw [e]; exact hu), Oper.upon_value, hd]
  exact h
 have comm : ∀ (a' : Act) v, (a'.put (some d) u).put k.dst v = (a'.put k.dst v).put (some d) u := fun a' v => Y9v a' u v (.inl (fun e => hdk.1 e.symm))
 rw [hwk] at h
 split
 ·rename_i hw
  rw [if_pos hw] at h
  have h := h.resolve_right (fun h => hl h.2)
  left
  unfold Oper.wp at h ⊢
  rw [hek] at h
  generalize (execOp a.eval k).run P w = r at *
  cases r with
  | ok n w' =>
   cases n <;> simp only [Oper.upon] at h ⊢
   case value v => rw [comm] at h; exact back _ _ (hdk.2 _ _) h
   case skip => rw [comm] at h; exact back _ _ (hdk.2 _ _) h
   case defer dd =>
    have : ({ (a.put (some d) u) with defers := dd :: (a.put (some d) u).defers } : Act) = ({ a with defers := dd :: a.defers } : Act).put (some d) u := rfl
    rw [this, comm] at h
    exact back _ _ ((hdk.2 _ _).trans rfl) h
   case enter f' args =>
    refine Calls.mono h (fun e w'' he => ?_)
    cases e with
    | returned v => simp only at he ⊢; rw [comm] at he; exact back _ _ (hdk.2 _ _) he
    | panicked c => exact (hp _ _ _ he).elim
    | outgrown => exact he
   case row rw_ args =>
    refine Rows.mono h (fun v w'' he => ?_)
    rw [comm] at he
    exact back _ _ (hdk.2 _ _) he
  | halt x' w' =>
   cases x' <;> simp only [Oper.upon] at h ⊢
   exact (hp _ _ _ h).elim
 ·rename_i hw
  rw [if_neg hw, comm] at h
  exact back _ _ (hdk.2 _ _) h
def Swap (ops : Array Oper) (y c : Nat) : Prop := ∃ z k x d, ops[y]? = some z /\ ops[c]? = some k /\ bareOp z.op = some x /\ z.dst = some d /\ z.guard = none /\ swapOk ops d x k = true
theorem Yd3 {P : Program} {ops : Array Oper} {Q : Exit -> Act -> World -> Prop} {y : Nat} {L : List Nat} (hp : ∀ c a w, ¬ Q (.panic c) a w) (hl : ¬ LetsOut Q) : ∀ {C : List Nat}, (∀ c ∈ C, Swap ops y c) -> ∀ {a : Act} {w : World}, wpOps P ops Q (y :: (C ++ L)) a w -> wpOps P ops Q (C ++ y :: L) a w
 | [], _, a, w, h => h
 | c :: C, hC, a, w, h => by
  obtain ⟨z, k, x, d, h1, h2, h3, h4, h5, h6⟩ := hC c List.mem_cons_self
  have := Yc5 h1 h2 h3 h4 h5 h6 hp hl (L := C ++ L) h
  rw [List.cons_append, wpOps_cons] at *
  exact wpOp_mono (fun a w h => Yd3 hp hl (fun c hc => hC c (List.mem_cons_of_mem _ hc)) h) this
theorem Yc6 {P : Program} {ops : Array Oper} {Q : Exit -> Act -> World -> Prop} {L L' : List Nat} (h : ∀ a w, wpOps P ops Q L a w -> wpOps P ops Q L' a w) : ∀ {A : List Nat} {a : Act} {w : World}, wpOps P ops Q (A ++ L) a w -> wpOps P ops Q (A ++ L') a w
 | [], a, w, hh => h a w hh
 | x :: A, a, w, hh => by
  rw [List.cons_append, wpOps_cons] at *
  exact wpOp_mono (fun a w h' => Yc6 h h') hh
theorem Ybo {P : Program} {ops : Array Oper} {Q : Exit -> Act -> World -> Prop} {s : Nat} {T : List Nat} (hp : ∀ c a w, ¬ Q (.panic c) a w) (hl : ¬ LetsOut Q) : ∀ {l C : List Nat}, (∀ y ∈ l, y < s -> ∀ c ∈ C, Swap ops y c) -> l.Pairwise (fun c y => y < s -> ¬ c < s -> Swap ops y c) -> ∀ {a : Act} {w : World}, wpOps P ops Q (l.filter (fun y => decide (y < s)) ++ (C ++ (l.filter (fun y => !decide (y < s)) ++ T))) a w -> wpOps P ops Q (C ++ (l ++ T)) a w
 | [], C, _, _, a, w, h => by simpa using h
 | y :: l, C, hC, hpw, a, w, h => by
  obtain ⟨p1, p2⟩ := List.pairwise_cons.1 hpw
  by_cases hy : y < s
  ·rw [List.filter_cons_of_pos (by simpa using hy), List.filter_cons_of_neg (by simpa using hy), List.cons_append, wpOps_cons] at h
   rw [List.cons_append]
   refine Yd3 hp hl (hC y List.mem_cons_self hy) ?_
   rw [wpOps_cons]
   exact wpOp_mono (fun a w h' => Ybo hp hl (fun y' hy' => hC y' (List.mem_cons_of_mem _ hy')) p2 h') h
  ·rw [List.filter_cons_of_neg (by simpa using hy), List.filter_cons_of_pos (by simpa using hy)] at h
   have h2 : wpOps P ops Q (l.filter (fun y => decide (y < s)) ++ ((C ++ [y]) ++ (l.filter (fun y => !decide (y < s)) ++ T))) a w := by simpa [List.append_assoc] using h
   have := Ybo hp hl (C := C ++ [y]) (fun y' hy' hlt c hc => by
    rcases List.mem_append.1 hc with hc | hc
    ·exact hC y' (List.mem_cons_of_mem _ hy') hlt c hc
    ·rw [List.mem_singleton.1 hc]; exact p1 y' hy' hlt hy) p2 h2
   simpa [List.append_assoc] using this
noncomputable def fixO (hard : Nat -> Prop) : Nat -> List Nat -> List Nat := open Classical in fun
 | 0, l => l
 | _ + 1, [] => []
 | n + 1, a :: l => if hard a then fixO hard n (l.filter fun y => decide (y < a)) ++ a :: fixO hard n (l.filter fun y => !decide (y < a)) else a :: fixO hard n l
theorem Y3e {hard : Nat -> Prop} : ∀ (n : Nat) {l : List Nat}, List.Perm (fixO hard n l) l
 | 0, l => by rw [fixO]
 | n + 1, [] => by rw [fixO]
 | n + 1, a :: l => by
  rw [fixO]
  split
  ·refine (List.perm_middle).trans (List.Perm.cons a ?_)
   exact (List.Perm.append (Y3e n) (Y3e n)).trans (List.filter_append_perm _ l)
  ·exact List.Perm.cons a (Y3e n)
theorem Y6f {hard : Nat -> Prop} {n : Nat} {l : List Nat} {x : Nat} : x ∈ fixO hard n l ↔ x ∈ l := (Y3e n).mem_iff
theorem Y44 {hard : Nat -> Prop} {D : Nat -> Nat -> Prop} : ∀ (n : Nat) {l : List Nat}, l.length <= n -> l.Pairwise (fun b x => x < b -> ¬ hard b -> D x b) -> (fixO hard n l).Pairwise (fun b x => x < b -> D x b)
 | 0, l, hn, hp => by
  obtain rfl : l = [] := List.length_eq_zero_iff.1 (by omega)
  rw [fixO]; exact List.Pairwise.nil
 | n + 1, [], hn, hp => by rw [fixO]; exact List.Pairwise.nil
 | n + 1, a :: l, hn, hp => by
  obtain ⟨p1, p2⟩ := List.pairwise_cons.1 hp
  rw [fixO]
  simp only [List.length_cons] at hn
  split
  ·rename_i ha
   have m1 : ∀ z ∈ fixO hard n (l.filter fun y => decide (y < a)), z < a := fun z hz => by
    have := (List.mem_filter.1 (Y6f.1 hz)).2; simpa using this
   have m2 : ∀ z ∈ fixO hard n (l.filter fun y => !decide (y < a)), a <= z := fun z hz => by
    have := (List.mem_filter.1 (Y6f.1 hz)).2; simpa using this
   refine List.pairwise_append.2 ⟨Y44 n (by have := List.length_filter_le (fun y => decide (y < a)) l; omega) (p2.filter _), List.pairwise_cons.2 ⟨fun x hx hlt => ?_, Y44 n (by have := List.length_filter_le (fun y => !decide (y < a)) l; omega) (p2.filter _)⟩, fun z hz x hx hlt => ?_⟩
   ·have := m2 x hx; omega
   ·have h1 := m1 z hz
    rcases List.mem_cons.1 hx with rfl | hx
    ·omega
    ·have := m2 x hx; omega
  ·rename_i ha
   exact List.pairwise_cons.2 ⟨fun x hx hlt => p1 x (Y6f.1 hx) hlt ha, Y44 n (by omega) p2⟩
theorem Y5v {P : Program} {ops : Array Oper} {Q : Exit -> Act -> World -> Prop} {hard Fl : Nat -> Prop} (hp : ∀ c a w, ¬ Q (.panic c) a w) (hl : ¬ LetsOut Q) : ∀ (n : Nat) {l T : List Nat}, l.length <= n -> l.Pairwise (fun c y => y < c -> hard c -> Fl y) -> l.Pairwise (fun c y => y < c -> Fl y -> Swap ops y c) -> ∀ {a : Act} {w : World}, wpOps P ops Q (fixO hard n l ++ T) a w -> wpOps P ops Q (l ++ T) a w
 | 0, l, T, hn, h1, h2, a, w, h => by
  obtain rfl : l = [] := List.length_eq_zero_iff.1 (by omega)
  rw [fixO] at h; exact h
 | n + 1, [], T, hn, h1, h2, a, w, h => by rw [fixO] at h; exact h
 | n + 1, x :: l, T, hn, h1, h2, a, w, h => by
  obtain ⟨p1, q1⟩ := List.pairwise_cons.1 h1
  obtain ⟨p2, q2⟩ := List.pairwise_cons.1 h2
  simp only [List.length_cons] at hn
  rw [fixO] at h
  split at h
  ·rename_i hx
   rw [List.append_assoc, List.cons_append] at h
   have s1 := Y5v hp hl n (by have := List.length_filter_le (fun y => decide (y < x)) l; omega) (q1.filter _) (q2.filter _) h
   have s2 := Yc6 (A := l.filter (fun y => decide (y < x))) (L' := [x] ++ (l.filter (fun y => !decide (y < x)) ++ T)) (fun a w h => by
    rw [wpOps_cons] at h
    rw [List.singleton_append, wpOps_cons]
    exact wpOp_mono (fun a w h => Y5v hp hl n (by have := List.length_filter_le (fun y => !decide (y < x)) l; omega) (q1.filter _) (q2.filter _) h) h) s1
   have s3 := Ybo (C := [x]) hp hl (fun y hy hlt c hc => by rw [List.mem_singleton.1 hc]; exact p2 y hy hlt (p1 y hy hlt hx)) (q2.imp_of_mem (fun {c y} hc hy h hlt hnc => h (by omega) (p1 y hy hlt hx))) s2
   exact s3
  ·rw [List.cons_append, wpOps_cons] at h ⊢
   exact wpOp_mono (fun a w h => Y5v hp hl n (by omega) q1 q2 h) h
theorem Y5p {ops : Array Oper} {i d : Nat} {x : Operand} : ∀ {n : Nat}, floatTo ops i d x n = true -> ∀ m, m < n -> i < m -> ∀ k, ops[m]? = some k -> swapOk ops d x k = true \/ ∃ e ∈ k.after, Region.binds .any e = true /\ e.on = i
 | 0, _, m, hm, _, _, _ => by omega
 | n + 1, h, m, hm, him, k, hk => by
  simp only [floatTo, Bool.and_eq_true, Bool.or_eq_true, decide_eq_true_eq] at h
  by_cases e : m = n
  ·subst e
   rcases h.1 with h1 | h1
   ·omega
   ·rw [hk] at h1
    simp only [Bool.or_eq_true, List.any_eq_true, Bool.and_eq_true] at h1
    rcases h1 with h1 | ⟨e, he, hb, hi⟩
    ·exact .inl h1
    ·exact .inr ⟨e, by simpa using he, hb, Nat.eq_of_beq_eq_true hi⟩
  ·exact Y5p h.2 m (by omega) him k hk
theorem Y7l : DrawHyp (R := R) T sig caps orc (drawReg T sig caps orc) := by
 intro ops env K r h t
 have hTS : AllJ (Fr (drawTS sig ops env)) env := by
  have : ∀ L : List DS, AllJ (Fr (firstOk env L)) env := by
   intro L
   induction L with
   | nil => exact fun r => ⟨Y9u rfl rfl _, fun hb => by simp [firstOk] at hb⟩
   | cons D L ih =>
    unfold firstOk
    split
    ·rename_i hE; exact Yal hE
    ·exact ih
  exact this _
 obtain ⟨E, gs, k1, k2, k3, k4⟩ := Y5o (k := 0) h hTS rfl rfl (fun m => by simp) (fun j hj => by omega)
 simp only [List.nil_append, Nat.zero_add, Array.length_toList, Nat.zero_le, true_implies] at k2 k4
 rw [<- List.range_eq_range'] at k2
 have hback : ∀ (i : Nat) (o : Oper), ops[i]? = some o -> ∀ e ∈ o.after, Region.binds .any e = true -> e.on < i := fun i o ho => (k4 i (Array.getElem?_eq_some_iff.1 ho).1).1 o ho
 have hunl : unl ops.size (Array.replicate ops.size false) = List.range ops.size := by
  unfold unl
  rw [List.filter_eq_self]
  intro i hi
  have := List.mem_range.1 hi
  simp [this]
 obtain ⟨g1, g2⟩ := Yak .any ops hback ops.size t (Array.replicate ops.size false) (by simp) (by rw [hunl]; simp)
 rw [hunl] at g1
 let π := Region.linearise .any ops t
 have hπ : π = Region.linearise.go .any ops ops.size t (Array.replicate ops.size false) [] := rfl
 rw [<- hπ] at g1 g2
 have hnd : π.Nodup := g1.symm.nodup List.nodup_range
 have hedge : ∀ (j : Nat) (o : Oper) (e : Edge), ops[j]? = some o -> e ∈ o.after -> Region.binds .any e = true -> ∀ (A B : List Nat), π = A ++ j :: B -> e.on ∈ A := by
  intro j o e ho he hb A B hAB
  rcases g2 A j B hAB o ho e he hb with h | h
  ·simp only [Array.getD_eq_getD_getElem?, Array.getElem?_replicate] at h
   split at h <;> simp at h
  ·exact h
 have hbefore : ∀ (j i : Nat), Anc ops j i -> ∀ (A B : List Nat), π = A ++ j :: B -> i ∈ A := by
  intro j i ha
  induction ha with
  | edge h1 h2 h3 =>
   intro A B e
   exact hedge _ _ _ h1 h2 h3 A B e
  | @trans j0 i0 o0 e0 h1 h2 h3 h4 ih =>
   intro A B e
   have h := hedge _ _ _ h1 h2 h3 A B e
   obtain ⟨A1, A2, rfl⟩ := List.append_of_mem h
   have := ih A1 (A2 ++ j0 :: B) (by rw [e]; simp [List.append_assoc])
   exact List.mem_append_left _ this
 have hsz : ∀ a ∈ π, a < ops.size := fun a ha => List.mem_range.1 (g1.subset ha)
 -- what comes later in π is no ancestor
 have pw : ∀ (D : Nat -> Nat -> Prop), (∀ (A B : List Nat) (c y : Nat), π = A ++ c :: B -> y ∈ B -> D c y) -> π.Pairwise D := by
  intro D hD
  have go : ∀ (A B : List Nat), π = A ++ B -> B.Pairwise D := by
   intro A B
   induction B generalizing A with
   | nil => intro _; exact List.Pairwise.nil
   | cons a B ih =>
    intro e
    exact List.pairwise_cons.2 ⟨fun x hx => hD A B a x e hx, ih (A ++ [a]) (by rw [e]; simp)⟩
  exact go [] π rfl
 have hlater : ∀ (A B : List Nat) (c y : Nat), π = A ++ c :: B -> y ∈ B -> ¬ Anc ops c y := fun A B c y e hy ha => by
  have h1 := hbefore c y ha A B e
  rw [e] at hnd
  exact (List.nodup_append.1 hnd).2.2 y h1 y (by simp [hy]) rfl
 let hard : Nat -> Prop := fun j => ¬ ∀ i, i < j -> Anc ops j i \/ Dis (gs.getD i none) (gs.getD j none)
 let Fl : Nat -> Prop := fun i => floatOk ops i = true
 let D : Nat -> Nat -> Prop := fun x b => Dis (gs.getD x none) (gs.getD b none)
 have hpr := Y44 (hard := hard) (D := D) π.length (Nat.le_refl _) (pw _ (fun A B c y e hy hlt hnh => by
  have := (Classical.not_not.1 hnh) y hlt
  exact this.resolve_left (hlater A B c y e hy)))
 have htr := Trace.reorder (Ydo ops) List.pairwise_lt_range ((Y3e (hard := hard) π.length).trans g1) hpr k2
 refine ⟨fixO hard π.length π, Y9t k3 htr, fun P Q a w hp hl h => ?_⟩
 have := Y5v (P := P) (Q := Q) (hard := hard) (Fl := Fl) (T := []) hp hl π.length (Nat.le_refl _) (pw _ (fun A B c y e hy hlt hh => ?_)) (pw _ (fun A B c y e hy hlt hf => ?_)) (a := a) (w := w) (by simpa using h)
 ·simpa using this
 ·have hc := hsz c (by rw [e]; simp)
  rcases (k4 c hc).2 with h' | h'
  ·exact absurd h' hh
  ·exact (h' y hlt).resolve_left (hlater A B c y e hy)
 ·have hc := hsz c (by rw [e]; simp)
  have hy' := hsz y (by rw [e]; simp [hy])
  have hf : floatOk ops y = true := hf
  unfold floatOk at hf
  rw [Array.getElem?_eq_getElem hy'] at hf
  simp only at hf
  split at hf
  ·rename_i x d hb hd
   simp only [Bool.and_eq_true, Option.isNone_iff_eq_none, Bool.not_eq_true'] at hf
   obtain ⟨hg, _, hft⟩ := hf
   rcases Y5p hft c hc hlt ops[c] (Array.getElem?_eq_getElem hc) with h' | ⟨e', he', hbe, hon⟩
   ·exact ⟨ops[y], ops[c], x, d, Array.getElem?_eq_getElem hy', Array.getElem?_eq_getElem hc, hb, hd, hg, h'⟩
   ·exfalso
    exact hlater A B c y e hy (hon ▸ Anc.edge (Array.getElem?_eq_getElem hc) he' hbe)
  ·cases hf
theorem Yaf {P : Program} (hT : TabOk P T) (hO : OrcOk P sig orc) (hm : P.follows .mixedOrders = true) {fuel : Nat} {ann : Nat -> Option (List Nat)} {f : FuncId} {fn : Func} {code : Code} (hf : P.funcs[f]? = some fn) (hb : fn.body = some code) {sg : Sig} {args : List RV} {res : List (Σ t : Ty, t.D)} {KR : List (Σ t : Ty, t.D) -> Option R} {rr : R}
  (hmu : sg.muts = false) (hU : ∀ xs, KR xs = some rr -> xs = res) (h : evFn T sig caps orc (drawReg T sig caps orc) fuel ann sg fn code args KR = some rr) : FnSpec P f sg.results args res := Ydd hT hO hm Y7l hf hb hmu hU h
theorem Y9w {P : Program} (hT : TabOk P T) (hO : OrcOk P sig orc) (hm : P.follows .mixedOrders = true) {fuel : Nat} {ann : Nat -> Option (List Nat)} {f : FuncId} {fn : Func} {code : Code} (hf : P.funcs[f]? = some fn) (hb : fn.body = some code) {sg : Sig} {t : Ty} {x y : t.D} {rest : List RV} {ys : List (Σ t : Ty, t.D)} {KR : List (Σ t : Ty, t.D) -> Option R} {rr : R}
  (hmu : sg.muts = true) (hU : ∀ xs, KR xs = some rr -> xs = ⟨t, y⟩ :: ys) (h : evFn T sig caps orc (drawReg T sig caps orc) fuel ann sg fn code (.val t x :: rest) KR = some rr) : FnSpecMut P f sg.results t x rest y ys := Ycx hT hO hm Y7l hf hb hmu hU h
end
end Go.FP

namespace Go.FP
inductive Dir where
 | l | r | t | f | b
 deriving DecidableEq, Inhabited
section
variable {R : Type} (T : Tab) (sig : FuncId -> Option Sig) (caps : FuncId -> List Ty) (orc : Orc)
def codeAt (fuel : Nat) (ann : Nat -> Option (List Nat)) : List Dir -> Nat -> Code -> (Exit -> Env -> Option R) -> List (Env -> Option R) -> Option (Nat × Code × (Exit -> Env -> Option R))
 | [], m, c, K, _ => some (m, c, K)
 | .l :: p, m, .seq a b, K, rs => codeAt fuel ann p m a (fun e env' => match e with
  | .normal => evCode T sig caps orc (drawReg T sig caps orc) fuel ann m b env' K
  | e => K e env') rs
 | .r :: p, m, .seq _ b, K, rs => codeAt fuel ann p m b K rs
 | .t :: p, m, .cond _ a _, K, rs => codeAt fuel ann p m a K rs
 | .f :: p, m, .cond _ _ b, K, rs => codeAt fuel ann p m b K rs
 | .b :: p, _, .block id c, K, rs => codeAt fuel ann p id c (fun e env' => match e with
  | .exit id' => if id' = id then K .normal env' else K e env'
  | e => K e env') rs
 | .b :: p, m, .loop c, K, rs => match ann m, rs with
  | some keep, rc :: rs => codeAt fuel ann p m c (fun e env' => match e with
   | .normal => rc (dropAll keep (List.range env'.length) env')
   | e => K e env') rs
  | _, _ => none
 | _, _, _, _, _ => none
def loopAt (fuel : Nat) (ann : Nat -> Option (List Nat)) (p : List Dir) (c : Code) (K : Exit -> Env -> Option R) (rs : List (Env -> Option R)) (k : Nat) (env : Env) : Option R :=
 match codeAt T sig caps orc fuel ann p 0 c K rs with
 | some (m, .loop c, K) => match ann m with
  | some keep => iter (fun rec env => evCode T sig caps orc (drawReg T sig caps orc) fuel ann m c env fun e env' => match e with
   | .normal => rec (dropAll keep (List.range env'.length) env')
   | e => K e env') k env
  | none => none
 | _ => none
end
end Go.FP

namespace Go.FP
inductive PC where
 | ro (t : Ty)
 | pin
 | self
 deriving DecidableEq
@[reducible] def AppS : List PC -> Type -> Type
 | [], β => β
 | .ro t :: cs, β => t.D -> AppS cs β
 | .pin :: cs, β => AppS cs β
 | .self :: cs, β => AppS cs β
inductive PS where
 | v (t : Ty)
 | p (t : Ty)
 | c (f : FuncId) (ts : List Ty)
 | s (f : FuncId) (cs : List PC)
 deriving DecidableEq
@[reducible] def App : List PS -> Type -> Type
 | [], β => β
 | .v t :: ps, β => t.D -> App ps β
 | .p t :: ps, β => t.D -> App ps β
 | .c _ ts :: ps, β => AppL ts (App ps β)
 | .s _ cs :: ps, β => AppS cs (App ps β)
where AppL : List Ty -> Type -> Type
 | [], β => β
 | t :: ts, β => t.D -> AppL ts β
def appC {β γ : Type} : (ts : List Ty) -> List (Σ t : Ty, t.D) -> App.AppL ts β -> (β -> Option γ) -> Option γ
 | [], [], F, k => k F
 | t :: ts, x :: xs, F, k => if h : x.1 = t then appC ts xs (F (h ▸ x.2)) k else none
 | _, _, _, _ => none
def appS {β γ : Type} : (cs : List PC) -> List RCap -> AppS cs β -> (β -> Option γ) -> Option γ
 | [], [], F, k => k F
 | .ro t :: cs, .ro x :: xs, F, k => if h : x.1 = t then appS cs xs (F (h ▸ x.2)) k else none
 | .pin :: cs, .pin :: xs, F, k => appS cs xs F k
 | .self :: cs, .self :: xs, F, k => appS cs xs F k
 | _, _, _, _ => none
def app {β : Type} : (ps : List PS) -> List RV -> App ps β -> Option β
 | [], [], F => some F
 | .v t :: ps, .val t' x :: as, F => if h : t' = t then app ps as (F (h ▸ x)) else none
 | .p t :: ps, .ptr t' x :: as, F => if h : t' = t then app ps as (F (h ▸ x)) else none
 | .c f ts :: ps, .clo f' xs :: as, F => if f' = f then appC ts xs F (fun G => app ps as G) else none
 | .s f cs :: ps, .fptr f' xs :: as, F => if f' = f then appS cs xs F (fun G => app ps as G) else none
 | _, _, _ => none
def OkC (β : Type) : (ts : List Ty) -> App.AppL ts β -> (List (Σ t : Ty, t.D) -> β -> Prop) -> Prop
 | [], F, Q => Q [] F
 | t :: ts, F, Q => ∀ x : t.D, OkC β ts (F x) (fun xs G => Q (⟨t, x⟩ :: xs) G)
def OkS (β : Type) : (cs : List PC) -> AppS cs β -> (List RCap -> β -> Prop) -> Prop
 | [], F, Q => Q [] F
 | .ro t :: cs, F, Q => ∀ x : t.D, OkS β cs (F x) (fun xs G => Q (.ro ⟨t, x⟩ :: xs) G)
 | .pin :: cs, F, Q => OkS β cs F (fun xs G => Q (.pin :: xs) G)
 | .self :: cs, F, Q => OkS β cs F (fun xs G => Q (.self :: xs) G)
def OkP (β : Type) : (ps : List PS) -> App ps β -> (List RV -> β -> Prop) -> Prop
 | [], F, Q => Q [] F
 | .v t :: ps, F, Q => ∀ x : t.D, OkP β ps (F x) (fun as G => Q (.val t x :: as) G)
 | .p t :: ps, F, Q => ∀ x : t.D, OkP β ps (F x) (fun as G => Q (.ptr t x :: as) G)
 | .c f ts :: ps, F, Q => OkC (App ps β) ts F (fun xs G => OkP β ps G (fun as H => Q (.clo f xs :: as) H))
 | .s f cs :: ps, F, Q => OkS (App ps β) cs F (fun xs G => OkP β ps G (fun as H => Q (.fptr f xs :: as) H))
theorem Yam {β γ : Type} : ∀ {ts : List Ty} {xs : List (Σ t : Ty, t.D)} {F : App.AppL ts β} {k : β -> Option γ} {g : γ} {Q : List (Σ t : Ty, t.D) -> β -> Prop}, OkC β ts F Q -> appC ts xs F k = some g -> ∃ G, Q xs G /\ k G = some g
 | [], [], F, k, g, Q, h, ha => ⟨F, h, ha⟩
 | t :: ts, ⟨t', x⟩ :: xs, F, k, g, Q, h, ha => by
  simp only [appC] at ha
  split at ha
  ·rename_i e
   subst e
   obtain ⟨G, h1, h2⟩ := Yam (h x) ha
   exact ⟨G, h1, h2⟩
  ·simp at ha
 | [], x :: xs, F, k, g, Q, h, ha => by simp [appC] at ha
 | t :: ts, [], F, k, g, Q, h, ha => by simp [appC] at ha
theorem Y5w {β γ : Type} : ∀ {cs : List PC} {xs : List RCap} {F : AppS cs β} {k : β -> Option γ} {g : γ} {Q : List RCap -> β -> Prop}, OkS β cs F Q -> appS cs xs F k = some g -> ∃ G, Q xs G /\ k G = some g
 | [], [], F, k, g, Q, h, ha => ⟨F, h, ha⟩
 | .ro t :: cs, .ro ⟨t', x⟩ :: xs, F, k, g, Q, h, ha => by
  simp only [appS] at ha
  split at ha
  ·rename_i e
   subst e
   obtain ⟨G, h1, h2⟩ := Y5w (h x) ha
   exact ⟨G, h1, h2⟩
  ·simp at ha
 | .pin :: cs, .pin :: xs, F, k, g, Q, h, ha => by
  simp only [appS] at ha
  obtain ⟨G, h1, h2⟩ := Y5w (Q := fun xs G => Q (.pin :: xs) G) h ha
  exact ⟨G, h1, h2⟩
 | .self :: cs, .self :: xs, F, k, g, Q, h, ha => by
  simp only [appS] at ha
  obtain ⟨G, h1, h2⟩ := Y5w (Q := fun xs G => Q (.self :: xs) G) h ha
  exact ⟨G, h1, h2⟩
 | [], x :: xs, F, k, g, Q, h, ha => by simp [appS] at ha
 | .ro t :: cs, [], F, k, g, Q, h, ha => by simp [appS] at ha
 | .ro t :: cs, .pin :: _, F, k, g, Q, h, ha => by simp [appS] at ha
 | .ro t :: cs, .self :: _, F, k, g, Q, h, ha => by simp [appS] at ha
 | .pin :: cs, [], F, k, g, Q, h, ha => by simp [appS] at ha
 | .pin :: cs, .ro _ :: _, F, k, g, Q, h, ha => by simp [appS] at ha
 | .pin :: cs, .self :: _, F, k, g, Q, h, ha => by simp [appS] at ha
 | .self :: cs, [], F, k, g, Q, h, ha => by simp [appS] at ha
 | .self :: cs, .ro _ :: _, F, k, g, Q, h, ha => by simp [appS] at ha
 | .self :: cs, .pin :: _, F, k, g, Q, h, ha => by simp [appS] at ha
theorem Y5q {β : Type} : ∀ {ps : List PS} {as : List RV} {F : App ps β} {g : β} {Q : List RV -> β -> Prop}, OkP β ps F Q -> app ps as F = some g -> Q as g
 | [], [], F, g, Q, h, ha => by simp only [app, Option.some.injEq] at ha; subst ha; exact h
 | .v t :: ps, .val t' x :: as, F, g, Q, h, ha => by
  simp only [app] at ha
  split at ha
  ·rename_i e
   subst e
   exact Y5q (Q := fun as G => Q (.val _ x :: as) G) (h x) ha
  ·simp at ha
 | .p t :: ps, .ptr t' x :: as, F, g, Q, h, ha => by
  simp only [app] at ha
  split at ha
  ·rename_i e
   subst e
   exact Y5q (Q := fun as G => Q (.ptr _ x :: as) G) (h x) ha
  ·simp at ha
 | .c f ts :: ps, .clo f' xs :: as, F, g, Q, h, ha => by
  simp only [app] at ha
  split at ha
  ·rename_i e
   subst e
   obtain ⟨G, h1, h2⟩ := Yam h ha
   exact Y5q (Q := fun as G => Q (.clo _ xs :: as) G) h1 h2
  ·simp at ha
 | [], _ :: _, F, g, Q, h, ha => by simp [app] at ha
 | .v t :: ps, [], F, g, Q, h, ha => by simp [app] at ha
 | .v t :: ps, .ptr _ _ :: _, F, g, Q, h, ha => by simp [app] at ha
 | .v t :: ps, .clo _ _ :: _, F, g, Q, h, ha => by simp [app] at ha
 | .p t :: ps, [], F, g, Q, h, ha => by simp [app] at ha
 | .p t :: ps, .val _ _ :: _, F, g, Q, h, ha => by simp [app] at ha
 | .p t :: ps, .clo _ _ :: _, F, g, Q, h, ha => by simp [app] at ha
 | .c f ts :: ps, [], F, g, Q, h, ha => by simp [app] at ha
 | .c f ts :: ps, .val _ _ :: _, F, g, Q, h, ha => by simp [app] at ha
 | .c f ts :: ps, .ptr _ _ :: _, F, g, Q, h, ha => by simp [app] at ha
 | .v t :: ps, .fptr _ _ :: _, F, g, Q, h, ha => by simp [app] at ha
 | .p t :: ps, .fptr _ _ :: _, F, g, Q, h, ha => by simp [app] at ha
 | .c f ts :: ps, .fptr _ _ :: _, F, g, Q, h, ha => by simp [app] at ha
 | .s f cs :: ps, .fptr f' xs :: as, F, g, Q, h, ha => by
  simp only [app] at ha
  split at ha
  ·rename_i e
   subst e
   obtain ⟨G, h1, h2⟩ := Y5w h ha
   exact Y5q (Q := fun as G => Q (.fptr _ xs :: as) G) h1 h2
  ·simp at ha
 | .s f cs :: ps, [], F, g, Q, h, ha => by simp [app] at ha
 | .s f cs :: ps, .val _ _ :: _, F, g, Q, h, ha => by simp [app] at ha
 | .s f cs :: ps, .ptr _ _ :: _, F, g, Q, h, ha => by simp [app] at ha
 | .s f cs :: ps, .clo _ _ :: _, F, g, Q, h, ha => by simp [app] at ha
def FnOk (P : Program) (f : FuncId) (sg : Sig) (args : List RV) (res : List (Σ t : Ty, t.D)) : Prop :=
 match sg.box with
 | some b => ∃ t x0 y ys, nthL args b.k = some (.ptr t x0) /\ res = ⟨t, y⟩ :: ys /\ FnSpecBox P f sg.results b t x0 args y ys
 | none => match sg.newb with
 | some id => ∃ t y, res = [⟨t, y⟩] /\ FnSpecNew P f id t args y
 | none => match sg.muts with
 | false => if sg.own then ∃ t x0, args = [.val t x0] /\ res = [⟨t, x0⟩] /\ FnSpecSh P f t x0 else FnSpec P f sg.results args res
 | true => if sg.own then ∃ t x0 rest y, args = .val t x0 :: rest /\ res = [⟨t, y⟩] /\ FnSpecOwn P f t x0 rest y else ∃ t x0 rest y ys, args = .val t x0 :: rest /\ res = ⟨t, y⟩ :: ys /\ FnSpecMut P f sg.results t x0 rest y ys
structure Entry (P : Program) where
 f : FuncId
 sg : Sig
 ps : List PS
 α : Type
 F : App ps (Option α)
 pk : α -> List (Σ t : Ty, t.D)
 en : Enterable P f
 ok : OkP (Option α) ps F (fun as q => ∀ x, q = some x -> FnOk P f sg as (pk x))
def orcL {P : Program} : List (Entry P) -> Orc
 | [], _, _ => none
 | e :: es, f, as => if f = e.f then (match app e.ps as e.F with
  | some q => some ⟨e.α, q, e.pk⟩
  | none => orcL es f as) else orcL es f as
def sigL {P : Program} : List (Entry P) -> FuncId -> Option Sig
 | [], _ => none
 | e :: es, f => if f = e.f then some e.sg else sigL es f
def agreeL {P : Program} : List (Entry P) -> Bool
 | [] => true
 | e :: es => (es.all fun e' => decide (e'.f = e.f -> e'.sg = e.sg)) && agreeL es
def capsL : List (FuncId × List Ty) -> FuncId -> List Ty
 | [], _ => []
 | p :: ps, f => if f = p.1 then p.2 else capsL ps f
theorem Y6g {P : Program} : ∀ {es : List (Entry P)} {f : FuncId} {as : List RV} {q : OrcRes}, orcL es f as = some q -> ∃ e ∈ es, f = e.f /\ ∃ g, app e.ps as e.F = some g /\ q = ⟨e.α, g, e.pk⟩
 | [], f, as, q, h => by simp [orcL] at h
 | e :: es, f, as, q, h => by
  simp only [orcL] at h
  split at h
  ·rename_i hf
   split at h
   ·rename_i g hg
    simp only [Option.some.injEq] at h
    exact ⟨e, List.mem_cons_self, hf, g, hg, h.symm⟩
   ·obtain ⟨e', h1, h2⟩ := Y6g h
    exact ⟨e', List.mem_cons_of_mem _ h1, h2⟩
  ·obtain ⟨e', h1, h2⟩ := Y6g h
   exact ⟨e', List.mem_cons_of_mem _ h1, h2⟩
theorem Y9x {P : Program} : ∀ {es : List (Entry P)} {f : FuncId} {sg : Sig}, agreeL es = true -> sigL es f = some sg -> ∀ e ∈ es, f = e.f -> e.sg = sg
 | [], f, sg, _, h, e, he, _ => by simp at he
 | e0 :: es, f, sg, ha, h, e, he, hf => by
  simp only [agreeL, Bool.and_eq_true, List.all_eq_true, decide_eq_true_eq] at ha
  simp only [sigL] at h
  split at h
  ·rename_i hf0
   simp only [Option.some.injEq] at h
   subst h
   rcases List.mem_cons.1 he with rfl | he
   ·rfl
   ·exact ha.1 e he (hf ▸ hf0)
  ·rename_i hf0
   rcases List.mem_cons.1 he with rfl | he
   ·exact absurd hf hf0
   ·exact Y9x ha.2 h e he hf
theorem Y7m {P : Program} {es : List (Entry P)} (ha : agreeL es = true) : OrcOk P (sigL es) (orcL es) := by
 intro f sg args q x hs hq hx
 obtain ⟨e, he, hf, g, hg, rfl⟩ := Y6g hq
 have hsg := Y9x ha hs e he hf
 subst hsg
 subst hf
 exact ⟨e.en, Y5q e.ok hg x hx⟩
def un1 (t : Ty) : List (Σ t : Ty, t.D) -> Option t.D
 | [x] => if h : x.1 = t then some (h ▸ x.2) else none
 | _ => none
def un2 (t u : Ty) : List (Σ t : Ty, t.D) -> Option (t.D × u.D)
 | [x, y] => if h : x.1 = t then if k : y.1 = u then some (h ▸ x.2, k ▸ y.2) else none else none
 | _ => none
def pk1 (t : Ty) : t.D -> List (Σ t : Ty, t.D) := fun x => [⟨t, x⟩]
def pk2 (t u : Ty) : t.D × u.D -> List (Σ t : Ty, t.D) := fun x => [⟨t, x.1⟩, ⟨u, x.2⟩]
theorem Y4 (t : Ty) (r : t.D) : ∀ xs, un1 t xs = some r -> xs = pk1 t r := by
 intro xs h
 unfold un1 at h
 split at h
 ·rename_i x
  obtain ⟨u, x⟩ := x
  split at h
  ·rename_i e
   subst e
   simp only [Option.some.injEq] at h
   subst h
   rfl
  ·simp at h
 ·simp at h
theorem Y3v (t u : Ty) (r : t.D × u.D) : ∀ xs, un2 t u xs = some r -> xs = pk2 t u r := by
 intro xs h
 unfold un2 at h
 split at h
 ·rename_i x y
  obtain ⟨t', x⟩ := x
  obtain ⟨u', y⟩ := y
  split at h
  ·rename_i e
   subst e
   split at h
   ·rename_i e
    subst e
    simp only [Option.some.injEq] at h
    subst h
    rfl
   ·simp at h
  ·simp at h
 ·simp at h
theorem Y6h {P : Program} {T : Tab} {es : List (Entry P)} {caps : FuncId -> List Ty} (hT : TabOk P T) (ha : agreeL es = true) (hm : P.follows .mixedOrders = true) {fuel : Nat} {ann : Nat -> Option (List Nat)} {f : FuncId} {fn : Func} {code : Code} (hf : P.funcs[f]? = some fn) (hb : fn.body = some code) {sg : Sig} {args : List RV}
  {α : Type} {un : List (Σ t : Ty, t.D) -> Option α} {pk : α -> List (Σ t : Ty, t.D)} (hmu : (sg.box = none /\ sg.newb = none) /\ sg.muts = false /\ sg.own = false) (hu : ∀ r xs, un xs = some r -> xs = pk r) {q : Option α} (h : evFn T (sigL es) caps (orcL es) (drawReg T (sigL es) caps (orcL es)) fuel ann sg fn code args un = q) :
  ∀ x, q = some x -> FnOk P f sg args (pk x) := by
 intro x hx
 subst h
 unfold FnOk
 rw [hmu.1.1, hmu.1.2, hmu.2.1, hmu.2.2]
 exact Yaf hT (Y7m ha) hm hf hb hmu.2.1 (fun xs h => hu x xs h) hx
theorem Y21 {P : Program} {T : Tab} {es : List (Entry P)} {caps : FuncId -> List Ty} (hT : TabOk P T) (ha : agreeL es = true) (hm : P.follows .mixedOrders = true) {fuel : Nat} {ann : Nat -> Option (List Nat)} {f : FuncId} {fn : Func} {code : Code} (hf : P.funcs[f]? = some fn) (hb : fn.body = some code) {sg : Sig} {t : Ty} {x0 : t.D} {rest : List RV}
  {α : Type} {un : List (Σ t : Ty, t.D) -> Option α} {pk : α -> List (Σ t : Ty, t.D)} (hmu : (sg.box = none /\ sg.newb = none) /\ sg.muts = true /\ sg.own = false) (hpk : ∀ r, ∃ y ys, pk r = ⟨t, y⟩ :: ys) (hu : ∀ r xs, un xs = some r -> xs = pk r) {q : Option α} (h : evFn T (sigL es) caps (orcL es) (drawReg T (sigL es) caps (orcL es)) fuel ann sg fn code (.val t x0 :: rest) un = q) :
  ∀ x, q = some x -> FnOk P f sg (.val t x0 :: rest) (pk x) := by
 intro x hx
 subst h
 unfold FnOk
 rw [hmu.1.1, hmu.1.2, hmu.2.1, hmu.2.2]
 obtain ⟨y, ys, e⟩ := hpk x
 exact ⟨t, x0, rest, y, ys, rfl, e, Y9w hT (Y7m ha) hm hf hb hmu.2.1 (fun xs h => (hu x xs h).trans e) hx⟩
theorem Yc7 {P : Program} {T : Tab} {es : List (Entry P)} {caps : FuncId -> List Ty} (hT : TabOk P T) (ha : agreeL es = true) (hm : P.follows .mixedOrders = true) {fuel : Nat} {ann : Nat -> Option (List Nat)} {f : FuncId} {fn : Func} {code : Code} (hf : P.funcs[f]? = some fn) (hb : fn.body = some code) {sg : Sig} {b : BoxSig} {t : Ty} {x0 : t.D} {args : List RV}
  {α : Type} {un : List (Σ t : Ty, t.D) -> Option α} {pk : α -> List (Σ t : Ty, t.D)} (hbx : sg.box = some b) (ht : nthL args b.k = some (.ptr t x0)) (hpk : ∀ r, ∃ y ys, pk r = ⟨t, y⟩ :: ys) (hu : ∀ r xs, un xs = some r -> xs = pk r) {q : Option α} (h : evFnB T (sigL es) caps (orcL es) (drawReg T (sigL es) caps (orcL es)) fuel ann sg b fn code args un = q) :
  ∀ x, q = some x -> FnOk P f sg args (pk x) := by
 intro x hx
 subst h
 unfold FnOk
 rw [hbx]
 obtain ⟨y, ys, e⟩ := hpk x
 exact ⟨t, x0, y, ys, ht, e, Ycy hT (Y7m ha) hm Y7l hf hb ht (fun xs h => (hu x xs h).trans e) hx⟩
theorem Y6i {P : Program} {f : FuncId} {fn : Func} {code : Code} (hf : P.funcs[f]? = some fn) (hb : fn.body = some code) (hn : (fn.name == "runtime.NumGoroutine") = false) : Enterable P f := ⟨fn, hf, by rw [hb]; rfl, hn⟩
end Go.FP

namespace Go.FP
theorem TEOk.plain {P : Program} {e : TE} {i : TypeInfo} (h1 : P.info? e.id = some i) (h2 : i.size = e.ty.sz) (h3 : i.bytes = e.bytes) (h4 : i.zero = some (zeroVal e.ty)) (ha : e.ty.isAgg = false) (hn : e.fn = false) (hq : e.eq = false)
  (h5 : match e.ty with
   | .int k => P.underlying e.id = some (.int k)
   | .bool => P.underlying e.id = some .bool
   | .str => P.underlying e.id = some .string
   | .slice el _ => P.underlying e.id = some (.slice el)
   | _ => False) : TEOk P e := by
 refine ⟨fun h => (by rw [hn] at h; cases h), fun _ => ⟨i, h1, h2, h3, h4⟩, fun _ => ?_, fun _ h => (by rw [ha] at h; simp at h), fun h => by rw [hq] at h; cases h⟩
 obtain ⟨id, ty, bytes, fields, fn, eq⟩ := e
 cases ty with
 | unit => simp [Ty.isAgg] at ha
 | pair a b => simp [Ty.isAgg] at ha
 | _ => exact h5
def fieldsB : List Field -> List (Nat × TypeId) -> Bool
 | _, [] => true
 | f :: fs, p :: ps => Nat.beq f.offset p.1 && (Nat.beq f.type p.2 && fieldsB fs ps)
 | [], _ :: _ => false
theorem Y3w : ∀ {fs : List Field} {ps : List (Nat × TypeId)}, fieldsB fs ps = true -> ∀ (i off ft : Nat), ps[i]? = some (off, ft) -> ∃ f : Field, fs[i]? = some f /\ f.offset = off /\ f.type = ft
 | fs, [], h, i, off, ft, hi => by simp at hi
 | [], p :: ps, h, i, off, ft, hi => by simp [fieldsB] at h
 | f :: fs, p :: ps, h, i, off, ft, hi => by
  simp only [fieldsB, Bool.and_eq_true] at h
  obtain ⟨h1, h2, h3⟩ := h
  cases i with
  | zero =>
   simp only [List.getElem?_cons_zero, Option.some.injEq] at hi
   subst hi
   exact ⟨f, rfl, Nat.eq_of_beq_eq_true h1, Nat.eq_of_beq_eq_true h2⟩
  | succ i => simpa using Y3w h3 i off ft (by simpa using hi)
theorem TEOk.struct {P : Program} {e : TE} {i : TypeInfo} {fs : Array Field} {pl : List (Nat × Nat)} (h1 : P.info? e.id = some i) (h2 : i.size = e.ty.sz) (h3 : i.bytes = e.bytes) (h4 : i.zero = some (zeroVal e.ty)) (hu : P.underlying e.id = some (.struct fs)) (hf : fieldsB fs.toList e.fields = true)
  (hp : fs.toList.mapM (fun f => (P.info? f.type).map fun i => (f.offset, i.size)) = some pl) (ha : e.ty.isAgg = true) (hn : e.fn = false) (hq : e.eq = true -> (P.eqGuardType P.depth e.id = false /\ P.stoodInHeld e.id = false) /\ EqFs P fs.toList (flat e.ty) 0) : TEOk P e := by
 refine ⟨fun h => (by rw [hn] at h; cases h), fun _ => ⟨i, h1, h2, h3, h4⟩, fun _ => ?_, fun _ _ => ⟨fs, pl, hu, hp⟩, fun h => ⟨(hq h).1, fs, hu, (hq h).2⟩⟩
 obtain ⟨id, ty, bytes, fields, fn, eq⟩ := e
 simp only at ha hf hu ⊢
 cases ty with
 | unit => exact ⟨fs, hu, fun i off ft h => by obtain ⟨f, h1, h2⟩ := Y3w hf i off ft h; exact ⟨f, by simpa using h1, h2⟩⟩
 | pair a b => exact ⟨fs, hu, fun i off ft h => by obtain ⟨f, h1, h2⟩ := Y3w hf i off ft h; exact ⟨f, by simpa using h1, h2⟩⟩
 | _ => simp [Ty.isAgg] at ha
theorem TEOk.ofFn {P : Program} {e : TE} {i : TypeInfo} {z : Value} {ps rs : Array TypeId} {v : Bool} (h1 : P.info? e.id = some i) (h2 : i.size = 1) (h3 : i.zero = some z) (h4 : z.oneCell' = true) (h5 : P.underlying e.id = some (.func ps rs v)) (hn : e.fn = true) (hq : e.eq = false) : TEOk P e :=
 ⟨fun _ => ⟨i, z, ps, rs, v, h1, h2, h3, h4, h5⟩, fun h => by (rw [hn] at h; cases h), fun h => by (rw [hn] at h; cases h), fun h => by (rw [hn] at h; cases h), fun h => by (rw [hq] at h; cases h)⟩
theorem Ydg {P : Program} : TabOk P [] := fun e he => by simp at he
theorem Yb {P : Program} {e : TE} {T : Tab} (h : TEOk P e) (hT : TabOk P T) : TabOk P (e :: T) := fun e' he => by
 rcases List.mem_cons.1 he with rfl | he
 ·exact h
 ·exact hT e' he
def un : Nat -> Env -> Env
 | 0, l => l
 | n + 1, l => .undef :: un n l
def lf (t : Ty) (x : t.D) (lv : Lvl) : Leaf := ⟨t, x, .at_ lv⟩
end Go.FP

namespace Go.FP
open Go.RowKit
def Wf : (t : Ty) -> t.D -> Prop
 | .int k, x => k.min <= x /\ x <= k.max
 | .bool, _ => True
 | .str, x => x.size <= maxLen
 | .slice _ t, x => x.length <= maxLen /\ ∀ y ∈ x, Wf t y
 | .unit, _ => True
 | .pair a b, x => Wf a x.1 /\ Wf b x.2
def fsB (g : Ty -> TypeId -> Bool) : Ty -> Nat -> List (Nat × TypeId) -> Bool
 | τ, off, [] => decide (τ = .unit)
 | τ, off, p :: ps => Nat.beq p.1 off && (match ps with
  | [] => g τ p.2 || (match τ with | .pair a .unit => g a p.2 | _ => false)
  | _ :: _ => (match τ with | .pair a b => g a p.2 && fsB g b (off + a.sz) ps | _ => false))
def tyB (T : Tab) : Nat -> Ty -> TypeId -> Bool
 | 0, _, _ => false
 | f + 1, τ, tid => match T.te tid with
  | none => false
  | some e => decide (e.ty = τ) && (match τ with
   | .slice el t => tyB T f t el && decide (0 < t.sz)
   | .pair a b => fsB (tyB T f) (.pair a b) 0 e.fields
   | .unit => fsB (tyB T f) .unit 0 e.fields
   | _ => true)
theorem Yc8 {T : Tab} {f : Nat} {τ : Ty} {tid : TypeId} (h : tyB T f τ tid = true) : ∃ e, T.te tid = some e /\ e.ty = τ := by
 cases f with
 | zero => simp [tyB] at h
 | succ f =>
  simp only [tyB] at h
  split at h
  ·simp at h
  ·rename_i e he
   simp only [Bool.and_eq_true, decide_eq_true_eq] at h
   exact ⟨e, he, h.1⟩
theorem Y3x {P : Program} {T : Tab} (hT : TabOk P T) {f : Nat} {τ : Ty} {tid : TypeId} (h : tyB T f τ tid = true) : P.cellsOf tid = τ.sz := by
 obtain ⟨e, he, rfl⟩ := Yc8 h
 obtain ⟨hm, rfl, hfn⟩ := Tab.te_mem he
 obtain ⟨i, h1, h2, _⟩ := (hT e hm).info hfn
 simp [Program.cellsOf, h1, h2]
section
variable {H : Type} {enc : TypeId × Value -> H} {P : Program} {w : World} {spare : Nat -> Bool} {held : Bool} {T : Tab}
theorem Y7c (hT : TabOk P T) {fuel : Nat} (ih : ∀ (f : Nat) (τ : Ty) (tid : TypeId) (cs : List Value) (d : DataW H × List MemPlace), tyB T f τ tid = true -> DataW.trod enc P w 0 spare held fuel tid cs = some d -> ∃ x, Rep (fun b => b < w.heap.size) w τ .ro cs x [] /\ Wf τ x) {cs : List Value} {f : Nat} :
  ∀ (ps : List (Nat × TypeId)) (τ : Ty) (off : Nat), fsB (tyB T f) τ off ps = true -> off + τ.sz <= cs.length -> (∀ p ∈ ps, ∃ d, DataW.trod enc P w 0 spare held fuel p.2 ((cs.drop p.1).take (P.cellsOf p.2)) = some d) ->
   ∃ x, Rep (fun b => b < w.heap.size) w τ .ro ((cs.drop off).take τ.sz) x [] /\ Wf τ x
 | [], τ, off, h, hl, hp => by
  simp only [fsB, decide_eq_true_eq] at h
  subst h
  exact ⟨(), ⟨by simp [Ty.sz], rfl⟩, trivial⟩
 | p :: ps, τ, off, h, hl, hp => by
  unfold fsB at h
  simp only [Bool.and_eq_true] at h
  obtain ⟨h1, h2⟩ := h
  have h1 := Nat.eq_of_beq_eq_true h1
  obtain ⟨d, hd⟩ := hp p (by simp)
  rw [h1] at hd
  cases ps with
  | nil =>
   simp only [Bool.or_eq_true] at h2
   rcases h2 with h2 | h2
   ·rw [Y3x hT h2] at hd
    exact ih _ _ _ _ _ h2 hd
   ·split at h2
    ·rename_i a
     rw [Y3x hT h2] at hd
     obtain ⟨x, k1, k2⟩ := ih _ _ _ _ _ h2 hd
     exact ⟨(x, ()), ⟨_, [], [], [], by simp [Ty.sz], rfl, k1, rfl, rfl⟩, k2, trivial⟩
    ·simp at h2
  | cons q ps =>
   simp only at h2
   split at h2
   ·rename_i a b
    simp only [Bool.and_eq_true] at h2
    obtain ⟨h2, h3⟩ := h2
    rw [Y3x hT h2] at hd
    obtain ⟨x, k1, k2⟩ := ih _ _ _ _ _ h2 hd
    simp only [Ty.sz] at hl
    obtain ⟨y, m1, m2⟩ := Y7c hT ih (q :: ps) b (off + a.sz) h3 (by omega) (fun p hp' => hp p (List.mem_cons_of_mem _ hp'))
    refine ⟨(x, y), ⟨_, _, [], [], ?_, rfl, k1, m1⟩, k2, m2⟩
    simp only [Ty.sz]
    rw [List.take_add, List.drop_drop]
   ·simp at h2
theorem Y6j {α β : Type} {g : α -> Option β} : ∀ {l : List α} {r : List β}, l.mapM g = some r -> ∀ a ∈ l, ∃ b, g a = some b
 | [], r, h, a, ha => by simp at ha
 | a0 :: l, r, h, a, ha => by
  simp only [List.mapM_cons, Option.pure_def, Option.bind_eq_bind, Option.bind_eq_some_iff] at h
  obtain ⟨b, hb, r', hr', _⟩ := h
  rcases List.mem_cons.1 ha with rfl | ha
  ·exact ⟨b, hb⟩
  ·exact Y6j hr' a ha
theorem Y84 {e : TypeId} {t : Ty} {a : Addr} (n0 : Nat) (hel : ∀ i, i < n0 -> ∃ cs x, cs.length = t.sz /\ (∀ j, j < t.sz -> w.cell? ((a.add (i * t.sz)).add j) = cs[j]?) /\ Rep (fun b => b < w.heap.size) w t .ro cs x [] /\ Wf t x) (hz : 0 < t.sz) :
  ∀ n, n <= n0 -> ∃ (xs : List Value) (x : List t.D), x.length = n /\ El (Rep (fun b => b < w.heap.size) w t .ro) t.sz xs x [] /\ (∀ y ∈ x, Wf t y) /\ ∀ j u, xs[j]? = some u -> a.block < w.heap.size /\ w.cell? (a.add j) = some u
 | 0, _ => ⟨[], [], rfl, ⟨rfl, rfl⟩, by simp, by simp⟩
 | n + 1, hn => by
  obtain ⟨xs, x, h1, h2, h3, h4⟩ := Y84 (e := e) n0 hel hz n (by omega)
  obtain ⟨cs, y, k1, k2, k3, k4⟩ := hel n (by omega)
  refine ⟨xs ++ cs, x ++ [y], by simp [h1], ?_, ?_, ?_⟩
  ·exact El.append h2 ⟨cs, [], [], [], by simp, k1, rfl, k3, rfl, rfl⟩
  ·intro z hz
   rcases List.mem_append.1 hz with hz | hz
   ·exact h3 z hz
   ·rw [List.mem_singleton.1 hz]; exact k4
  ·intro j u hu
   have hxl : xs.length = n * t.sz := by rw [h2.len, h1]
   by_cases hj : j < xs.length
   ·rw [List.getElem?_append_left hj] at hu
    exact h4 j u hu
   ·rw [List.getElem?_append_right (by omega)] at hu
    have hjl := (List.getElem?_eq_some_iff.1 hu).1
    have := k2 (j - xs.length) (by omega)
    rw [hu] at this
    have hadd : (a.add (n * t.sz)).add (j - xs.length) = a.add j := by
     rw [Addr.add_add, <- hxl]
     congr 1
     omega
    rw [hadd] at this
    have hlt := World.block_lt_of_cell? w _ this
    rw [Addr.add_block] at hlt
    exact ⟨hlt, this⟩
theorem Y6k (hT : TabOk P T) : ∀ (fuel f : Nat) (τ : Ty) (tid : TypeId) (cs : List Value) (d : DataW H × List MemPlace), tyB T f τ tid = true -> DataW.trod enc P w 0 spare held fuel tid cs = some d -> ∃ x, Rep (fun b => b < w.heap.size) w τ .ro cs x [] /\ Wf τ x
 | 0, f, τ, tid, cs, d, hb, h => by simp [DataW.trod] at h
 | fuel + 1, 0, τ, tid, cs, d, hb, h => by simp [tyB] at hb
 | fuel + 1, f + 1, τ, tid, cs, d, hb, h => by
  have hsz := Y3x hT hb
  simp only [tyB] at hb
  split at hb
  ·simp at hb
  rename_i e he
  simp only [Bool.and_eq_true, decide_eq_true_eq] at hb
  obtain ⟨hty, hb⟩ := hb
  obtain ⟨hm, hid, hfn⟩ := Tab.te_mem he
  have hd := (hT e hm).desc hfn
  rw [hid] at hd
  rw [hty] at hd
  unfold DataW.trod at h
  have hstruct : ∀ fs : Array Field, P.underlying tid = some (.struct fs) -> (∀ (i off ft : Nat), e.fields[i]? = some (off, ft) -> ∃ f : Field, fs[i]? = some f /\ f.offset = off /\ f.type = ft) -> fsB (tyB T f) τ 0 e.fields = true -> ∃ x, Rep (fun b => b < w.heap.size) w τ .ro cs x [] /\ Wf τ x := by
   intro fs hu hf hfs
   rw [hu] at h
   simp only at h
   split at h
   ·rename_i hl
    rw [hsz] at hl
    obtain ⟨r, hr, _⟩ := Option.map_eq_some_iff.1 h
    have hall := Y6j hr
    obtain ⟨x, k1, k2⟩ := Y7c hT (Y6k hT fuel) (cs := cs) e.fields τ 0 hfs (by omega) (fun p hp => by
     obtain ⟨i, hi⟩ := List.getElem?_of_mem hp
     obtain ⟨fd, g1, g2, g3⟩ := hf i p.1 p.2 hi
     obtain ⟨d, hd⟩ := hall fd (by rw [<- Array.getElem?_toList] at g1; exact List.mem_of_getElem? g1)
     rw [g2, g3] at hd
     exact ⟨d, hd⟩)
    rw [List.drop_zero, List.take_of_length_le (by omega)] at k1
    exact ⟨x, k1, k2⟩
   ·simp at h
  cases τ with
  | int k =>
   simp only at hd
   rw [hd] at h
   rcases cs with _ | ⟨v, _ | ⟨v2, tl⟩⟩
   ·simp at h
   ·cases v <;> simp at h
    obtain ⟨⟨rfl, h2⟩, _⟩ := h
    simp only [Lit.wf, Bool.and_eq_true, decide_eq_true_eq] at h2
    exact ⟨_, ⟨rfl, rfl⟩, h2⟩
   ·simp at h
  | bool =>
   simp only at hd
   rw [hd] at h
   rcases cs with _ | ⟨v, _ | ⟨v2, tl⟩⟩
   ·simp at h
   ·cases v <;> simp at h
    exact ⟨_, ⟨rfl, rfl⟩, trivial⟩
   ·simp at h
  | str =>
   simp only at hd
   rw [hd] at h
   rcases cs with _ | ⟨v, _ | ⟨v2, tl⟩⟩
   ·simp at h
   ·cases v <;> simp at h
    exact ⟨_, ⟨rfl, rfl⟩, h.1⟩
   ·simp at h
  | slice el t =>
   simp only [Bool.and_eq_true, decide_eq_true_eq] at hb
   obtain ⟨hb, hpos⟩ := hb
   simp only at hd
   rw [hd] at h
   rcases cs with _ | ⟨v, _ | ⟨v2, tl⟩⟩
   ·simp at h
   ·cases v with
    | slice A len cap =>
     cases A with
     | none =>
      have : len = 0 /\ cap = 0 := by
       split at h <;> simp_all
      obtain ⟨rfl, rfl⟩ := this
      exact ⟨[], ⟨.slice none 0 0, [], [], [], rfl, rfl, ⟨rfl, rfl⟩, rfl, none, 0, rfl, Nat.le_refl _, fun _ => rfl, by simp⟩, by simp, by simp⟩
     | some a =>
      simp only at h
      split at h
      case isFalse => simp at h
      rename_i hc
      obtain ⟨_, h1, h2⟩ := hc
      obtain ⟨elems, h3, _⟩ := Option.bind_eq_some_iff.1 h
      have hsz2 := Y3x hT hb
      have hall := Y6j h3
      obtain ⟨xs, x, k1, k2, k3, k4⟩ := Y84 (w := w) (e := el) (t := t) (a := a) len (fun i hi => by
       obtain ⟨d, hd⟩ := hall i (List.mem_range.2 hi)
       obtain ⟨ci, hci, hd⟩ := Option.bind_eq_some_iff.1 hd
       obtain ⟨_, g1, g2⟩ := World.cells?_some hci
       rw [hsz2] at g1 g2
       obtain ⟨x, m1, m2⟩ := Y6k hT fuel f t el ci d hb hd
       exact ⟨ci, x, g1, g2, m1, m2⟩) hpos len (Nat.le_refl _)
      refine ⟨x, ⟨.slice (some a) len cap, xs, [], [], rfl, rfl, k2, rfl, some a, cap, by rw [k1], by rw [k1]; exact h1, fun h => by simp at h, fun j u hu => ?_⟩, by show x.length <= maxLen; omega, k3⟩
      obtain ⟨m1, m2⟩ := k4 j u hu
      exact ⟨a, rfl, m1, m2⟩
    | _ => simp at h
   ·simp at h
  | unit =>
   simp only at hd hb
   obtain ⟨fs, hu, hf⟩ := hd
   exact hstruct fs hu hf hb
  | pair a b =>
   simp only at hd hb
   obtain ⟨fs, hu, hf⟩ := hd
   exact hstruct fs hu hf hb
end
end Go.FP

namespace Go.FP
open Go.RowKit Go.WideShapes
theorem Y6l {H : Type} {enc : TypeId × Value -> H} {P : Program} {w : World} {spare : Nat -> Bool} {held : Bool} {T : Tab} (hT : TabOk P T) {r : Go.Reach} {b0 f : Nat} {τ : Ty} {tid : TypeId} (hb : tyB T f τ tid = true) {v : Value} (hval : Value.okWide P w r b0 tid v) {d : DataW H} {ps : List MemPlace} (hd : DataW.Trod enc P w 0 spare held tid v d ps) :
  ∃ x, RVRel (fun b => b < w.heap.size) w (.val τ x) v /\ Wf τ x := by
 obtain ⟨fuel, hf⟩ := hd
 obtain ⟨x, h1, h2⟩ := Y6k hT _ _ _ _ _ _ hb hf
 refine ⟨x, ⟨v.cells.toList, ?_, h1⟩, h2⟩
 obtain ⟨e, he, rfl⟩ := Yc8 hb
 obtain ⟨hm, rfl, hfn⟩ := Tab.te_mem he
 have hd := (hT e hm).desc hfn
 cases hτ : e.ty with
 | int k => rw [hτ] at hd; obtain ⟨n, rfl⟩ := okWide_int hd hval; rfl
 | bool => rw [hτ] at hd; obtain ⟨n, rfl⟩ := okWide_bool hd hval; rfl
 | str => rw [hτ] at hd; obtain ⟨n, rfl⟩ := okWide_string hd hval; rfl
 | slice el t => rw [hτ] at hd; obtain ⟨a, l, c, rfl⟩ := okWide_slice hd hval; rfl
 | unit =>
  rw [hτ] at hd
  obtain ⟨fs, hu, _⟩ := hd
  simp only [Value.okWide, hu] at hval
  obtain ⟨cs, rfl, _⟩ := hval
  simp [mkV, Ty.isAgg, Value.cells]
 | pair a b =>
  rw [hτ] at hd
  obtain ⟨fs, hu, _⟩ := hd
  simp only [Value.okWide, hu] at hval
  obtain ⟨cs, rfl, _⟩ := hval
  simp [mkV, Ty.isAgg, Value.cells]
theorem Yd1 {P : Program} {f : FuncId} {fr : Lvl} {args : List RV} {vals : List Value} {w : World} (hs : FnSpec P f [(.bool, fr)] args [⟨.bool, true⟩]) (hv : RVRels (fun b => b < w.heap.size) w args vals) :
  Calls P f vals.toArray w fun e w' => e = .returned (.bool true) /\ Below w.heap.size w w' := by
 refine (hs _ w vals hv).mono fun e w' ⟨chs, bs, he, hb, hr, _⟩ => ⟨?_, hb⟩
 obtain ⟨x, xs', ch, chs', b, b', e1, e2, e3, h1, h2⟩ := hr
 simp only [List.cons.injEq, Sigma.mk.injEq, heq_eq_eq, true_and] at e1
 obtain ⟨rfl, rfl⟩ := e1
 obtain ⟨_, rfl, rfl⟩ := h2
 have hch : ch = [.bool true] := by
  cases fr <;> exact h1.1
 rw [he, e2, hch]
 rfl
end Go.FP
