/- How Go values lie in memory, and an evaluator of code with its soundness (part 4 of 4). Conditions: those that stand in each theorem; nothing is assumed of any program. -/
import Derived.Test.YtnnljnfnomfgkaaFpC
import Derived.KernelRfl
import Derived.ProofKit
import Derived.ChangeOld
import Derived.WideShapes
import Derived.ChangeMaps5

/- Regions with open order: every order says the same. Conditions: none. -/
namespace Go.FP
open Go.RowKit
set_option linter.unusedVariables false
set_option linter.unusedSimpArgs false

inductive Anc (ops : Array Oper) : Nat → Nat → Prop
  | edge {j : Nat} {o : Oper} {e : Edge} (h1 : ops[j]? = some o) (h2 : e ∈ o.after) (h3 : Region.binds .any e = true) : Anc ops j e.on
  | trans {j i : Nat} {o : Oper} {e : Edge} (h1 : ops[j]? = some o) (h2 : e ∈ o.after) (h3 : Region.binds .any e = true) (h4 : Anc ops e.on i) : Anc ops j i

theorem ancMask_bit {ms : List Nat} {i : Nat} : ∀ {l : List Edge}, (ancMask ms l).testBit i = true → ∃ e ∈ l, Region.binds .any e = true ∧ (e.on = i ∨ (ms.getD e.on 0).testBit i = true)
  | [], h => by simp [ancMask] at h
  | e :: l, h => by
    unfold ancMask at h
    split at h
    · rename_i hb
      rw [Nat.testBit_or, Nat.testBit_or, Nat.testBit_two_pow] at h
      simp only [Bool.or_eq_true, decide_eq_true_eq] at h
      rcases h with (h | h) | h
      · exact ⟨e, by simp, hb, .inl h⟩
      · exact ⟨e, by simp, hb, .inr h⟩
      · obtain ⟨e', h1, h2⟩ := ancMask_bit h
        exact ⟨e', by simp [h1], h2⟩
    · obtain ⟨e', h1, h2⟩ := ancMask_bit h
      exact ⟨e', by simp [h1], h2⟩

theorem notIn_spec {t : Nat} : ∀ {l : List Nat}, notIn t l = true → t ∉ l
  | [], _ => by simp
  | x :: l, h => by
    simp only [notIn, Bool.and_eq_true, Bool.not_eq_true'] at h
    have h1 : x ≠ t := fun e => by rw [e] at h; simp at h
    simp only [List.mem_cons, not_or]
    exact ⟨fun e => h1 e.symm, notIn_spec h.2⟩
theorem disB_spec {f g : Foot} (h : disB f g = true) : Dis f g := by
  cases f with
  | none => simp [disB] at h
  | some p => cases g with
    | none => simp [disB] at h
    | some q =>
      obtain ⟨t, R⟩ := p
      obtain ⟨t', R'⟩ := q
      simp only [disB, Bool.and_eq_true, Bool.not_eq_true'] at h
      obtain ⟨h1, h2, h3⟩ := h
      exact ⟨fun e => by rw [e] at h1; simp at h1, notIn_spec h2, notIn_spec h3⟩
theorem okAll_spec {mask : Nat} {g : Foot} : ∀ {fs : List Foot} {i : Nat}, okAll mask i fs g = true → ∀ k f, fs[k]? = some f → mask.testBit (i + k) = true ∨ Dis f g
  | [], i, _, k, f, hk => by simp at hk
  | f0 :: fs, i, h, k, f, hk => by
    simp only [okAll, Bool.and_eq_true, Bool.or_eq_true] at h
    cases k with
    | zero =>
      simp only [List.getElem?_cons_zero, Option.some.injEq] at hk
      subst hk
      exact h.1.imp (fun h => h) disB_spec
    | succ k =>
      have := okAll_spec h.2 k f (by simpa using hk)
      rwa [show i + 1 + k = i + (k + 1) by omega] at this

section
variable {R : Type} {T : Tab} {sig : FuncId → Option Sig} {caps : FuncId → List Ty} {orc : Orc}

theorem evDraw_trace {ops : Array Oper} {K : Env → Option R} {r : R} : ∀ {rest : List Oper} {ms : List Nat} {fs : List Foot} {env : Env} {k : Nat}, evDraw T sig caps orc ops rest ms fs env K = some r → ms.length = k → fs.length = k → (∀ m, rest[m]? = ops[k + m]?) →
    (∀ j, j < k → ∀ i, (ms.getD j 0).testBit i = true → Anc ops j i) →
    ∃ (E : Env) (gs : List Foot), gs.length = rest.length ∧ Trace (stepI T sig caps orc ops) (footI sig ops) (List.range' k rest.length) env E (fun i => (fs ++ gs).getD i none) ∧ K E = some r ∧
      (∀ j, k ≤ j → j < k + rest.length → (∀ o, ops[j]? = some o → ∀ e ∈ o.after, Region.binds .any e = true → e.on < j) ∧ ∀ i, i < j → Anc ops j i ∨ Dis ((fs ++ gs).getD i none) ((fs ++ gs).getD j none))
  | [], ms, fs, env, k, h, h1, h2, h3, h4 => by
    exact ⟨env, [], rfl, rfl, h, fun j hj hj' => by simp at hj'; omega⟩
  | o :: rest, ms, fs, env, k, h, h1, h2, h3, h4 => by
    obtain ⟨hback, hok, e1, hs, hr⟩ := evDraw_cons h
    have hok0 : ops[k]? = some o := by have := h3 0; simpa using this.symm
    have hanc : ∀ i, (ancMask ms o.after.toList).testBit i = true → Anc ops k i := by
      intro i hi
      obtain ⟨e, he, hb, hc⟩ := ancMask_bit hi
      have he' : e ∈ o.after := by simpa using he
      rcases hc with rfl | hc
      · exact .edge hok0 he' hb
      · exact .trans hok0 he' hb (h4 e.on (by have := hback e he hb; omega) i hc)
    let g := footG sig ops o env
    obtain ⟨E, gs, k1, k2, k3, k4⟩ := evDraw_trace (k := k + 1) hr (by simp [h1]) (by simp [h2]) (fun m => by have := h3 (m + 1); rw [List.getElem?_cons_succ] at this; rw [this]; congr 1; omega) (fun j hj i hi => by
      by_cases hjk : j < k
      · rw [List.getD_eq_getElem?_getD, List.getElem?_append_left (by omega), ← List.getD_eq_getElem?_getD] at hi
        exact h4 j hjk i hi
      · have : j = k := by omega
        subst this
        rw [List.getD_eq_getElem?_getD, List.getElem?_append_right (by omega), h1, Nat.sub_self] at hi
        exact hanc i (by simpa using hi))
    have eapp : fs ++ [g] ++ gs = fs ++ (g :: gs) := by simp
    rw [eapp] at k2 k4
    have hgk : (fs ++ (g :: gs)).getD k none = g := by
      rw [List.getD_eq_getElem?_getD, List.getElem?_append_right (by omega), h2, Nat.sub_self]
      rfl
    refine ⟨E, g :: gs, by simp [k1], ?_, k3, fun j hj hj' => ?_⟩
    · rw [List.length_cons, List.range'_succ]
      refine ⟨?_, e1, ?_, k2⟩
      · show footI sig ops k env = _
        unfold footI
        rw [hok0]
        exact hgk.symm
      · unfold stepI
        rw [hok0]
        exact hs
    · by_cases hjk : j = k
      · subst hjk
        refine ⟨fun o' ho' e he hbe => ?_, fun i hi => ?_⟩
        · rw [hok0] at ho'
          simp only [Option.some.injEq] at ho'
          subst ho'
          have := hback e (by simpa using he) hbe
          omega
        · rw [hgk]
          have hfi : fs[i]? = some (fs[i]'(by omega)) := List.getElem?_eq_getElem (by omega)
          have := okAll_spec hok i _ hfi
          rw [Nat.zero_add] at this
          rcases this with h5 | h5
          · exact .inl (hanc i h5)
          · right
            rw [List.getD_eq_getElem?_getD, List.getElem?_append_left (by omega), hfi]
            exact h5
      · exact k4 j (by omega) (by simp only [List.length_cons] at hj'; omega)

theorem draw_ok : DrawHyp (R := R) T sig caps orc (drawReg T sig caps orc) := by
  intro ops env K r h t
  obtain ⟨E, gs, k1, k2, k3, k4⟩ := evDraw_trace (k := 0) h rfl rfl (fun m => by simp) (fun j hj => by omega)
  simp only [List.nil_append, Nat.zero_add, Array.length_toList, Nat.zero_le, true_implies] at k2 k4
  rw [← List.range_eq_range'] at k2
  have hback : ∀ (i : Nat) (o : Oper), ops[i]? = some o → ∀ e ∈ o.after, Region.binds .any e = true → e.on < i := fun i o ho => (k4 i (Array.getElem?_eq_some_iff.1 ho).1).1 o ho
  have hunl : unl ops.size (Array.replicate ops.size false) = List.range ops.size := by
    unfold unl
    rw [List.filter_eq_self]
    intro i hi
    have := List.mem_range.1 hi
    simp [this]
  obtain ⟨g1, g2⟩ := go_spec .any ops hback ops.size t (Array.replicate ops.size false) (by simp) (by rw [hunl]; simp)
  rw [hunl] at g1
  let π := Region.linearise .any ops t
  have hπ : π = Region.linearise.go .any ops ops.size t (Array.replicate ops.size false) [] := rfl
  rw [← hπ] at g1 g2
  have hnd : π.Nodup := g1.symm.nodup List.nodup_range
  have hbefore : ∀ (j i : Nat), Anc ops j i → ∀ (A B : List Nat), π = A ++ j :: B → i ∈ A := by
    intro j i ha
    induction ha with
    | edge h1 h2 h3 =>
      intro A B e
      rcases g2 A _ B e _ h1 _ h2 h3 with h | h
      · simp only [Array.getD_eq_getD_getElem?, Array.getElem?_replicate] at h
        split at h <;> simp at h
      · exact h
    | @trans j0 i0 o0 e0 h1 h2 h3 h4 ih =>
      intro A B e
      rcases g2 A _ B e _ h1 _ h2 h3 with h | h
      · simp only [Array.getD_eq_getD_getElem?, Array.getElem?_replicate] at h
        split at h <;> simp at h
      · obtain ⟨A1, A2, rfl⟩ := List.append_of_mem h
        have := ih A1 (A2 ++ j0 :: B) (by rw [e]; simp [List.append_assoc])
        exact List.mem_append_left _ this
  have hpair : ∀ (A B : List Nat), π = A ++ B → B.Pairwise (fun a x => x < a → Dis (gs.getD x none) (gs.getD a none)) := by
    intro A B
    induction B generalizing A with
    | nil => intro _; exact List.Pairwise.nil
    | cons a B ih =>
      intro e
      refine List.pairwise_cons.2 ⟨fun x hx hxa => ?_, ih (A ++ [a]) (by rw [e]; simp)⟩
      have ham : a ∈ List.range ops.size := g1.subset (by rw [e]; simp)
      rcases (k4 a (List.mem_range.1 ham)).2 x hxa with h | h
      · exfalso
        have hxA := hbefore a x h A B e
        rw [e] at hnd
        exact (List.nodup_append.1 hnd).2.2 x hxA x (by simp [hx]) rfl
      · exact h
  have htr := Trace.reorder (mildI ops) List.pairwise_lt_range g1 (hpair [] π rfl) k2
  exact trace_ev k3 htr

/-- The contract of a function that the evaluator has run. -/
theorem fn_contract {P : Program} (hT : TabOk P T) (hO : OrcOk P sig orc) (hm : P.follows .mixedOrders = true) {fuel : Nat} {ann : Nat → Option (List Nat)} {f : FuncId} {fn : Func} {code : Code} (hf : P.funcs[f]? = some fn) (hb : fn.body = some code) {sg : Sig} {args : List RV} {res : List (Σ t : Ty, t.D)} {KR : List (Σ t : Ty, t.D) → Option R} {rr : R}
    (hU : ∀ xs, KR xs = some rr → xs = res) (h : evFn T sig caps orc (drawReg T sig caps orc) fuel ann sg fn code args KR = some rr) : FnSpec P f sg.results args res := fn_spec hT hO hm draw_ok hf hb hU h
end
end Go.FP

/- Places in code: the loop at a place, its continuation. Conditions: none (definitions alone). -/
namespace Go.FP

inductive Dir where
  | l | r | t | f | b
  deriving DecidableEq, Inhabited

section
variable {R : Type} (T : Tab) (sig : FuncId → Option Sig) (caps : FuncId → List Ty) (orc : Orc)

/-- What stands at a place of the code: its block's number, the code, what follows. rs: what the loops on the way do at their next round. -/
def codeAt (fuel : Nat) (ann : Nat → Option (List Nat)) : List Dir → Nat → Code → (Exit → Env → Option R) → List (Env → Option R) → Option (Nat × Code × (Exit → Env → Option R))
  | [], m, c, K, _ => some (m, c, K)
  | .l :: p, m, .seq a b, K, rs => codeAt fuel ann p m a (fun e env' => match e with
    | .normal => evCode T sig caps orc (drawReg T sig caps orc) fuel ann m b env' K
    | e => K e env') rs
  | .r :: p, m, .seq _ b, K, rs => codeAt fuel ann p m b K rs
  | .t :: p, m, .cond _ a _, K, rs => codeAt fuel ann p m a K rs
  | .f :: p, m, .cond _ _ b, K, rs => codeAt fuel ann p m b K rs
  | .b :: p, _, .block id c, K, rs => codeAt fuel ann p id c (fun e env' => match e with
    | .exit id' => if id' = id then K .normal env' else K e env'
    | e => K e env') rs
  | .b :: p, m, .loop c, K, rs => match ann m, rs with
    | some keep, rc :: rs => codeAt fuel ann p m c (fun e env' => match e with
      | .normal => rc (dropAll keep (List.range env'.length) env')
      | e => K e env') rs
    | _, _ => none
  | _, _, _, _, _ => none

/-- The rounds of the loop at a place. -/
def loopAt (fuel : Nat) (ann : Nat → Option (List Nat)) (p : List Dir) (c : Code) (K : Exit → Env → Option R) (rs : List (Env → Option R)) (k : Nat) (env : Env) : Option R :=
  match codeAt T sig caps orc fuel ann p 0 c K rs with
  | some (m, .loop c, K) => match ann m with
    | some keep => iter (fun rec env => evCode T sig caps orc (drawReg T sig caps orc) fuel ann m c env fun e env' => match e with
      | .normal => rec (dropAll keep (List.range env'.length) env')
      | e => K e env') k env
    | none => none
  | _ => none
end
end Go.FP

/- Tables of functions with their contracts. Conditions: none. -/
namespace Go.FP
set_option linter.unusedVariables false

/-- What a parameter is: a value, a pointer that is only read, a closure that is known. -/
inductive PS where
  | v (t : Ty)
  | p (t : Ty)
  | c (f : FuncId) (ts : List Ty)
  deriving DecidableEq

def AppC : List Ty → Type → Type
  | [], β => β
  | t :: ts, β => t.D → AppC ts β
@[reducible] def App : List PS → Type → Type
  | [], β => β
  | .v t :: ps, β => t.D → App ps β
  | .p t :: ps, β => t.D → App ps β
  | .c _ ts :: ps, β => AppL ts (App ps β)
where AppL : List Ty → Type → Type
  | [], β => β
  | t :: ts, β => t.D → AppL ts β

def appC {β γ : Type} : (ts : List Ty) → List (Σ t : Ty, t.D) → App.AppL ts β → (β → Option γ) → Option γ
  | [], [], F, k => k F
  | t :: ts, x :: xs, F, k => if h : x.1 = t then appC ts xs (F (h ▸ x.2)) k else none
  | _, _, _, _ => none
def app {β : Type} : (ps : List PS) → List RV → App ps β → Option β
  | [], [], F => some F
  | .v t :: ps, .val t' x :: as, F => if h : t' = t then app ps as (F (h ▸ x)) else none
  | .p t :: ps, .ptr t' x :: as, F => if h : t' = t then app ps as (F (h ▸ x)) else none
  | .c f ts :: ps, .clo f' xs :: as, F => if f' = f then appC ts xs F (fun G => app ps as G) else none
  | _, _, _ => none

def OkC (β : Type) : (ts : List Ty) → App.AppL ts β → (List (Σ t : Ty, t.D) → β → Prop) → Prop
  | [], F, Q => Q [] F
  | t :: ts, F, Q => ∀ x : t.D, OkC β ts (F x) (fun xs G => Q (⟨t, x⟩ :: xs) G)
/-- Whatever the arguments: Q of them and of what comes out. -/
def OkP (β : Type) : (ps : List PS) → App ps β → (List RV → β → Prop) → Prop
  | [], F, Q => Q [] F
  | .v t :: ps, F, Q => ∀ x : t.D, OkP β ps (F x) (fun as G => Q (.val t x :: as) G)
  | .p t :: ps, F, Q => ∀ x : t.D, OkP β ps (F x) (fun as G => Q (.ptr t x :: as) G)
  | .c f ts :: ps, F, Q => OkC (App ps β) ts F (fun xs G => OkP β ps G (fun as H => Q (.clo f xs :: as) H))

theorem appC_ok {β γ : Type} : ∀ {ts : List Ty} {xs : List (Σ t : Ty, t.D)} {F : App.AppL ts β} {k : β → Option γ} {g : γ} {Q : List (Σ t : Ty, t.D) → β → Prop}, OkC β ts F Q → appC ts xs F k = some g → ∃ G, Q xs G ∧ k G = some g
  | [], [], F, k, g, Q, h, ha => ⟨F, h, ha⟩
  | t :: ts, ⟨t', x⟩ :: xs, F, k, g, Q, h, ha => by
    simp only [appC] at ha
    split at ha
    · rename_i e
      subst e
      obtain ⟨G, h1, h2⟩ := appC_ok (h x) ha
      exact ⟨G, h1, h2⟩
    · simp at ha
  | [], x :: xs, F, k, g, Q, h, ha => by simp [appC] at ha
  | t :: ts, [], F, k, g, Q, h, ha => by simp [appC] at ha

theorem app_ok {β : Type} : ∀ {ps : List PS} {as : List RV} {F : App ps β} {g : β} {Q : List RV → β → Prop}, OkP β ps F Q → app ps as F = some g → Q as g
  | [], [], F, g, Q, h, ha => by simp only [app, Option.some.injEq] at ha; subst ha; exact h
  | .v t :: ps, .val t' x :: as, F, g, Q, h, ha => by
    simp only [app] at ha
    split at ha
    · rename_i e
      subst e
      exact app_ok (Q := fun as G => Q (.val _ x :: as) G) (h x) ha
    · simp at ha
  | .p t :: ps, .ptr t' x :: as, F, g, Q, h, ha => by
    simp only [app] at ha
    split at ha
    · rename_i e
      subst e
      exact app_ok (Q := fun as G => Q (.ptr _ x :: as) G) (h x) ha
    · simp at ha
  | .c f ts :: ps, .clo f' xs :: as, F, g, Q, h, ha => by
    simp only [app] at ha
    split at ha
    · rename_i e
      subst e
      obtain ⟨G, h1, h2⟩ := appC_ok h ha
      exact app_ok (Q := fun as G => Q (.clo _ xs :: as) G) h1 h2
    · simp at ha
  | [], _ :: _, F, g, Q, h, ha => by simp [app] at ha
  | .v t :: ps, [], F, g, Q, h, ha => by simp [app] at ha
  | .v t :: ps, .ptr _ _ :: _, F, g, Q, h, ha => by simp [app] at ha
  | .v t :: ps, .clo _ _ :: _, F, g, Q, h, ha => by simp [app] at ha
  | .p t :: ps, [], F, g, Q, h, ha => by simp [app] at ha
  | .p t :: ps, .val _ _ :: _, F, g, Q, h, ha => by simp [app] at ha
  | .p t :: ps, .clo _ _ :: _, F, g, Q, h, ha => by simp [app] at ha
  | .c f ts :: ps, [], F, g, Q, h, ha => by simp [app] at ha
  | .c f ts :: ps, .val _ _ :: _, F, g, Q, h, ha => by simp [app] at ha
  | .c f ts :: ps, .ptr _ _ :: _, F, g, Q, h, ha => by simp [app] at ha

/-- A function, its signature, what it computes, and that it does. -/
structure Entry (P : Program) where
  f : FuncId
  sg : Sig
  ps : List PS
  α : Type
  F : App ps (Option α)
  pk : α → List (Σ t : Ty, t.D)
  nomut : sg.muts = false
  en : Enterable P f
  ok : OkP (Option α) ps F (fun as q => ∀ x, q = some x → FnSpec P f sg.results as (pk x))

def orcL {P : Program} : List (Entry P) → Orc
  | [], _, _ => none
  | e :: es, f, as => if f = e.f then (match app e.ps as e.F with
    | some q => some ⟨e.α, q, e.pk⟩
    | none => orcL es f as) else orcL es f as
def sigL {P : Program} : List (Entry P) → FuncId → Option Sig
  | [], _ => none
  | e :: es, f => if f = e.f then some e.sg else sigL es f
def agreeL {P : Program} : List (Entry P) → Bool
  | [] => true
  | e :: es => (es.all fun e' => decide (e'.f = e.f → e'.sg = e.sg)) && agreeL es
def capsL : List (FuncId × List Ty) → FuncId → List Ty
  | [], _ => []
  | p :: ps, f => if f = p.1 then p.2 else capsL ps f

theorem orcL_mem {P : Program} : ∀ {es : List (Entry P)} {f : FuncId} {as : List RV} {q : OrcRes}, orcL es f as = some q → ∃ e ∈ es, f = e.f ∧ ∃ g, app e.ps as e.F = some g ∧ q = ⟨e.α, g, e.pk⟩
  | [], f, as, q, h => by simp [orcL] at h
  | e :: es, f, as, q, h => by
    simp only [orcL] at h
    split at h
    · rename_i hf
      split at h
      · rename_i g hg
        simp only [Option.some.injEq] at h
        exact ⟨e, List.mem_cons_self, hf, g, hg, h.symm⟩
      · obtain ⟨e', h1, h2⟩ := orcL_mem h
        exact ⟨e', List.mem_cons_of_mem _ h1, h2⟩
    · obtain ⟨e', h1, h2⟩ := orcL_mem h
      exact ⟨e', List.mem_cons_of_mem _ h1, h2⟩
theorem sigL_mem {P : Program} : ∀ {es : List (Entry P)} {f : FuncId} {sg : Sig}, agreeL es = true → sigL es f = some sg → ∀ e ∈ es, f = e.f → e.sg = sg
  | [], f, sg, _, h, e, he, _ => by simp at he
  | e0 :: es, f, sg, ha, h, e, he, hf => by
    simp only [agreeL, Bool.and_eq_true, List.all_eq_true, decide_eq_true_eq] at ha
    simp only [sigL] at h
    split at h
    · rename_i hf0
      simp only [Option.some.injEq] at h
      subst h
      rcases List.mem_cons.1 he with rfl | he
      · rfl
      · exact ha.1 e he (hf ▸ hf0)
    · rename_i hf0
      rcases List.mem_cons.1 he with rfl | he
      · exact absurd hf hf0
      · exact sigL_mem ha.2 h e he hf
theorem orcL_ok {P : Program} {es : List (Entry P)} (ha : agreeL es = true) : OrcOk P (sigL es) (orcL es) := by
  intro f sg args q x hs hq hx
  obtain ⟨e, he, hf, g, hg, rfl⟩ := orcL_mem hq
  have hsg := sigL_mem ha hs e he hf
  subst hsg
  subst hf
  refine ⟨e.en, ?_⟩
  rw [e.nomut]
  exact app_ok e.ok hg x hx

/-! ### results taken apart -/
def un0 : List (Σ t : Ty, t.D) → Option Unit
  | [] => some ()
  | _ => none
def un1 (t : Ty) : List (Σ t : Ty, t.D) → Option t.D
  | [x] => if h : x.1 = t then some (h ▸ x.2) else none
  | _ => none
def un2 (t u : Ty) : List (Σ t : Ty, t.D) → Option (t.D × u.D)
  | [x, y] => if h : x.1 = t then if k : y.1 = u then some (h ▸ x.2, k ▸ y.2) else none else none
  | _ => none
def un3 (t u v : Ty) : List (Σ t : Ty, t.D) → Option (t.D × u.D × v.D)
  | [x, y, z] => if h : x.1 = t then if k : y.1 = u then if l : z.1 = v then some (h ▸ x.2, k ▸ y.2, l ▸ z.2) else none else none else none
  | _ => none
def pk0 : Unit → List (Σ t : Ty, t.D) := fun _ => []
def pk1 (t : Ty) : t.D → List (Σ t : Ty, t.D) := fun x => [⟨t, x⟩]
def pk2 (t u : Ty) : t.D × u.D → List (Σ t : Ty, t.D) := fun x => [⟨t, x.1⟩, ⟨u, x.2⟩]
def pk3 (t u v : Ty) : t.D × u.D × v.D → List (Σ t : Ty, t.D) := fun x => [⟨t, x.1⟩, ⟨u, x.2.1⟩, ⟨v, x.2.2⟩]
theorem un0_pk (r : Unit) : ∀ xs, un0 xs = some r → xs = pk0 r := by
  intro xs h
  unfold un0 at h
  split at h
  · rfl
  · simp at h
theorem un1_pk (t : Ty) (r : t.D) : ∀ xs, un1 t xs = some r → xs = pk1 t r := by
  intro xs h
  unfold un1 at h
  split at h
  · rename_i x
    obtain ⟨u, x⟩ := x
    split at h
    · rename_i e
      subst e
      simp only [Option.some.injEq] at h
      subst h
      rfl
    · simp at h
  · simp at h
theorem un2_pk (t u : Ty) (r : t.D × u.D) : ∀ xs, un2 t u xs = some r → xs = pk2 t u r := by
  intro xs h
  unfold un2 at h
  split at h
  · rename_i x y
    obtain ⟨t', x⟩ := x
    obtain ⟨u', y⟩ := y
    split at h
    · rename_i e
      subst e
      split at h
      · rename_i e
        subst e
        simp only [Option.some.injEq] at h
        subst h
        rfl
      · simp at h
    · simp at h
  · simp at h
theorem un3_pk (t u v : Ty) (r : t.D × u.D × v.D) : ∀ xs, un3 t u v xs = some r → xs = pk3 t u v r := by
  intro xs h
  unfold un3 at h
  split at h
  · rename_i x y z
    obtain ⟨t', x⟩ := x
    obtain ⟨u', y⟩ := y
    obtain ⟨v', z⟩ := z
    split at h
    · rename_i e
      subst e
      split at h
      · rename_i e
        subst e
        split at h
        · rename_i e
          subst e
          simp only [Option.some.injEq] at h
          subst h
          rfl
        · simp at h
      · simp at h
    · simp at h
  · simp at h

/-- The function's own evaluation says what its contract says. -/
theorem entry_ok {P : Program} {T : Tab} {es : List (Entry P)} {caps : FuncId → List Ty} (hT : TabOk P T) (ha : agreeL es = true) (hm : P.follows .mixedOrders = true) {fuel : Nat} {ann : Nat → Option (List Nat)} {f : FuncId} {fn : Func} {code : Code} (hf : P.funcs[f]? = some fn) (hb : fn.body = some code) {sg : Sig} {args : List RV}
    {α : Type} {un : List (Σ t : Ty, t.D) → Option α} {pk : α → List (Σ t : Ty, t.D)} (hu : ∀ r xs, un xs = some r → xs = pk r) {q : Option α} (h : evFn T (sigL es) caps (orcL es) (drawReg T (sigL es) caps (orcL es)) fuel ann sg fn code args un = q) :
    ∀ x, q = some x → FnSpec P f sg.results args (pk x) := by
  intro x hx
  subst h
  exact fn_contract hT (orcL_ok ha) hm hf hb (fun xs h => hu x xs h) hx
theorem entry_en {P : Program} {f : FuncId} {fn : Func} {code : Code} (hf : P.funcs[f]? = some fn) (hb : fn.body = some code) (hn : (fn.name == "runtime.NumGoroutine") = false) : Enterable P f := ⟨fn, hf, by rw [hb]; rfl, hn⟩
end Go.FP

/- The program's types, checked; short words for environments. Conditions: none. -/
namespace Go.FP
set_option linter.unusedVariables false

theorem TEOk.plain {P : Program} {e : TE} {i : TypeInfo} (h1 : P.info? e.id = some i) (h2 : i.size = e.ty.sz) (h3 : i.bytes = e.bytes) (h4 : i.zero = some (zeroVal e.ty)) (ha : e.ty.isAgg = false)
    (h5 : match e.ty with
      | .int k => P.underlying e.id = some (.int k)
      | .bool => P.underlying e.id = some .bool
      | .str => P.underlying e.id = some .string
      | .slice el _ => P.underlying e.id = some (.slice el)
      | _ => False) : TEOk P e := by
  refine ⟨⟨i, h1, h2, h3, h4⟩, ?_, fun h => by rw [ha] at h; simp at h⟩
  obtain ⟨id, ty, bytes, fields⟩ := e
  cases ty with
  | unit => simp [Ty.isAgg] at ha
  | pair a b => simp [Ty.isAgg] at ha
  | _ => exact h5
def fieldsB : List Field → List (Nat × TypeId) → Bool
  | _, [] => true
  | f :: fs, p :: ps => Nat.beq f.offset p.1 && (Nat.beq f.type p.2 && fieldsB fs ps)
  | [], _ :: _ => false
theorem fieldsB_spec : ∀ {fs : List Field} {ps : List (Nat × TypeId)}, fieldsB fs ps = true → ∀ (i off ft : Nat), ps[i]? = some (off, ft) → ∃ f : Field, fs[i]? = some f ∧ f.offset = off ∧ f.type = ft
  | fs, [], h, i, off, ft, hi => by simp at hi
  | [], p :: ps, h, i, off, ft, hi => by simp [fieldsB] at h
  | f :: fs, p :: ps, h, i, off, ft, hi => by
    simp only [fieldsB, Bool.and_eq_true] at h
    obtain ⟨h1, h2, h3⟩ := h
    cases i with
    | zero =>
      simp only [List.getElem?_cons_zero, Option.some.injEq] at hi
      subst hi
      exact ⟨f, rfl, Nat.eq_of_beq_eq_true h1, Nat.eq_of_beq_eq_true h2⟩
    | succ i => simpa using fieldsB_spec h3 i off ft (by simpa using hi)
theorem TEOk.struct {P : Program} {e : TE} {i : TypeInfo} {fs : Array Field} {pl : List (Nat × Nat)} (h1 : P.info? e.id = some i) (h2 : i.size = e.ty.sz) (h3 : i.bytes = e.bytes) (h4 : i.zero = some (zeroVal e.ty)) (hu : P.underlying e.id = some (.struct fs)) (hf : fieldsB fs.toList e.fields = true)
    (hp : fs.toList.mapM (fun f => (P.info? f.type).map fun i => (f.offset, i.size)) = some pl) (ha : e.ty.isAgg = true) : TEOk P e := by
  refine ⟨⟨i, h1, h2, h3, h4⟩, ?_, fun _ => ⟨fs, pl, hu, hp⟩⟩
  obtain ⟨id, ty, bytes, fields⟩ := e
  simp only at ha hf hu ⊢
  cases ty with
  | unit => exact ⟨fs, hu, fun i off ft h => by obtain ⟨f, h1, h2⟩ := fieldsB_spec hf i off ft h; exact ⟨f, by simpa using h1, h2⟩⟩
  | pair a b => exact ⟨fs, hu, fun i off ft h => by obtain ⟨f, h1, h2⟩ := fieldsB_spec hf i off ft h; exact ⟨f, by simpa using h1, h2⟩⟩
  | _ => simp [Ty.isAgg] at ha
theorem tab_nil {P : Program} : TabOk P [] := fun e he => by simp at he
theorem tab_cons {P : Program} {e : TE} {T : Tab} (h : TEOk P e) (hT : TabOk P T) : TabOk P (e :: T) := fun e' he => by
  rcases List.mem_cons.1 he with rfl | he
  · exact h
  · exact hT e' he

/-- Places that hold nothing, in front. -/
def un : Nat → Env → Env
  | 0, l => l
  | n + 1, l => .undef :: un n l
def lf (t : Ty) (x : t.D) (lv : Lvl) : Leaf := ⟨t, x, .at_ lv⟩
def lb (t : Ty) (x : t.D) (r j : Nat) : Leaf := ⟨t, x, .bor r j []⟩
end Go.FP

/- What comes in as data reads as native data. Conditions: none. -/
namespace Go.FP
open Go.RowKit
set_option linter.unusedVariables false

/-- What every input of a type is. -/
def Wf : (t : Ty) → t.D → Prop
  | .int k, x => k.min ≤ x ∧ x ≤ k.max
  | .bool, _ => True
  | .str, x => x.size ≤ maxLen
  | .slice _ t, x => x.length ≤ maxLen ∧ ∀ y ∈ x, Wf t y
  | .unit, _ => True
  | .pair a b, x => Wf a x.1 ∧ Wf b x.2

def fsB (g : Ty → TypeId → Bool) : Ty → Nat → List (Nat × TypeId) → Bool
  | τ, off, [] => decide (τ = .unit)
  | τ, off, p :: ps => Nat.beq p.1 off && (match ps with
    | [] => g τ p.2 || (match τ with | .pair a .unit => g a p.2 | _ => false)
    | _ :: _ => (match τ with | .pair a b => g a p.2 && fsB g b (off + a.sz) ps | _ => false))
/-- The table tells a type to its ground. f: the depth. -/
def tyB (T : Tab) : Nat → Ty → TypeId → Bool
  | 0, _, _ => false
  | f + 1, τ, tid => match T.te tid with
    | none => false
    | some e => decide (e.ty = τ) && (match τ with
      | .slice el t => tyB T f t el && decide (0 < t.sz)
      | .pair a b => fsB (tyB T f) (.pair a b) 0 e.fields
      | .unit => fsB (tyB T f) .unit 0 e.fields
      | _ => true)

theorem tyB_te {T : Tab} {f : Nat} {τ : Ty} {tid : TypeId} (h : tyB T f τ tid = true) : ∃ e, T.te tid = some e ∧ e.ty = τ := by
  cases f with
  | zero => simp [tyB] at h
  | succ f =>
    simp only [tyB] at h
    split at h
    · simp at h
    · rename_i e he
      simp only [Bool.and_eq_true, decide_eq_true_eq] at h
      exact ⟨e, he, h.1⟩
theorem tyB_size {P : Program} {T : Tab} (hT : TabOk P T) {f : Nat} {τ : Ty} {tid : TypeId} (h : tyB T f τ tid = true) : P.cellsOf tid = τ.sz := by
  obtain ⟨e, he, rfl⟩ := tyB_te h
  obtain ⟨hm, rfl⟩ := Tab.te_mem he
  obtain ⟨i, h1, h2, _⟩ := (hT e hm).info
  simp [Program.cellsOf, h1, h2]

section
variable {H : Type} {enc : TypeId × Value → H} {P : Program} {w : World} {spare : Nat → Bool} {held : Bool} {T : Tab}

theorem fields_rep (hT : TabOk P T) {fuel : Nat} (ih : ∀ (f : Nat) (τ : Ty) (tid : TypeId) (cs : List Value) (d : DataW H × List MemPlace), tyB T f τ tid = true → DataW.trod enc P w 0 spare held fuel tid cs = some d → ∃ x, Rep (fun b => b < w.heap.size) w τ .ro cs x [] ∧ Wf τ x) {cs : List Value} {f : Nat} :
    ∀ (ps : List (Nat × TypeId)) (τ : Ty) (off : Nat), fsB (tyB T f) τ off ps = true → off + τ.sz ≤ cs.length → (∀ p ∈ ps, ∃ d, DataW.trod enc P w 0 spare held fuel p.2 ((cs.drop p.1).take (P.cellsOf p.2)) = some d) →
      ∃ x, Rep (fun b => b < w.heap.size) w τ .ro ((cs.drop off).take τ.sz) x [] ∧ Wf τ x
  | [], τ, off, h, hl, hp => by
    simp only [fsB, decide_eq_true_eq] at h
    subst h
    exact ⟨(), ⟨by simp [Ty.sz], rfl⟩, trivial⟩
  | p :: ps, τ, off, h, hl, hp => by
    unfold fsB at h
    simp only [Bool.and_eq_true] at h
    obtain ⟨h1, h2⟩ := h
    have h1 := Nat.eq_of_beq_eq_true h1
    obtain ⟨d, hd⟩ := hp p (by simp)
    rw [h1] at hd
    cases ps with
    | nil =>
      simp only [Bool.or_eq_true] at h2
      rcases h2 with h2 | h2
      · rw [tyB_size hT h2] at hd
        exact ih _ _ _ _ _ h2 hd
      · split at h2
        · rename_i a
          rw [tyB_size hT h2] at hd
          obtain ⟨x, k1, k2⟩ := ih _ _ _ _ _ h2 hd
          exact ⟨(x, ()), ⟨_, [], [], [], by simp [Ty.sz], rfl, k1, rfl, rfl⟩, k2, trivial⟩
        · simp at h2
    | cons q ps =>
      simp only at h2
      split at h2
      · rename_i a b
        simp only [Bool.and_eq_true] at h2
        obtain ⟨h2, h3⟩ := h2
        rw [tyB_size hT h2] at hd
        obtain ⟨x, k1, k2⟩ := ih _ _ _ _ _ h2 hd
        simp only [Ty.sz] at hl
        obtain ⟨y, m1, m2⟩ := fields_rep hT ih (q :: ps) b (off + a.sz) h3 (by omega) (fun p hp' => hp p (List.mem_cons_of_mem _ hp'))
        refine ⟨(x, y), ⟨_, _, [], [], ?_, rfl, k1, m1⟩, k2, m2⟩
        simp only [Ty.sz]
        rw [List.take_add, List.drop_drop]
      · simp at h2

theorem mapM_all {α β : Type} {g : α → Option β} : ∀ {l : List α} {r : List β}, l.mapM g = some r → ∀ a ∈ l, ∃ b, g a = some b
  | [], r, h, a, ha => by simp at ha
  | a0 :: l, r, h, a, ha => by
    simp only [List.mapM_cons, Option.pure_def, Option.bind_eq_bind, Option.bind_eq_some_iff] at h
    obtain ⟨b, hb, r', hr', _⟩ := h
    rcases List.mem_cons.1 ha with rfl | ha
    · exact ⟨b, hb⟩
    · exact mapM_all hr' a ha

theorem elems_rep {e : TypeId} {t : Ty} {a : Addr} (n0 : Nat) (hel : ∀ i, i < n0 → ∃ cs x, cs.length = t.sz ∧ (∀ j, j < t.sz → w.cell? ((a.add (i * t.sz)).add j) = cs[j]?) ∧ Rep (fun b => b < w.heap.size) w t .ro cs x [] ∧ Wf t x) (hz : 0 < t.sz) :
    ∀ n, n ≤ n0 → ∃ (xs : List Value) (x : List t.D), x.length = n ∧ El (Rep (fun b => b < w.heap.size) w t .ro) t.sz xs x [] ∧ (∀ y ∈ x, Wf t y) ∧ ∀ j u, xs[j]? = some u → a.block < w.heap.size ∧ w.cell? (a.add j) = some u
  | 0, _ => ⟨[], [], rfl, ⟨rfl, rfl⟩, by simp, by simp⟩
  | n + 1, hn => by
    obtain ⟨xs, x, h1, h2, h3, h4⟩ := elems_rep (e := e) n0 hel hz n (by omega)
    obtain ⟨cs, y, k1, k2, k3, k4⟩ := hel n (by omega)
    refine ⟨xs ++ cs, x ++ [y], by simp [h1], ?_, ?_, ?_⟩
    · exact El.append h2 ⟨cs, [], [], [], by simp, k1, rfl, k3, rfl, rfl⟩
    · intro z hz
      rcases List.mem_append.1 hz with hz | hz
      · exact h3 z hz
      · rw [List.mem_singleton.1 hz]; exact k4
    · intro j u hu
      have hxl : xs.length = n * t.sz := by rw [h2.len, h1]
      by_cases hj : j < xs.length
      · rw [List.getElem?_append_left hj] at hu
        exact h4 j u hu
      · rw [List.getElem?_append_right (by omega)] at hu
        have hjl := (List.getElem?_eq_some_iff.1 hu).1
        have := k2 (j - xs.length) (by omega)
        rw [hu] at this
        have hadd : (a.add (n * t.sz)).add (j - xs.length) = a.add j := by
          rw [Addr.add_add, ← hxl]
          congr 1
          omega
        rw [hadd] at this
        have hlt := World.block_lt_of_cell? w _ this
        rw [Addr.add_block] at hlt
        exact ⟨hlt, this⟩

theorem trod_rep (hT : TabOk P T) : ∀ (fuel f : Nat) (τ : Ty) (tid : TypeId) (cs : List Value) (d : DataW H × List MemPlace), tyB T f τ tid = true → DataW.trod enc P w 0 spare held fuel tid cs = some d → ∃ x, Rep (fun b => b < w.heap.size) w τ .ro cs x [] ∧ Wf τ x
  | 0, f, τ, tid, cs, d, hb, h => by simp [DataW.trod] at h
  | fuel + 1, 0, τ, tid, cs, d, hb, h => by simp [tyB] at hb
  | fuel + 1, f + 1, τ, tid, cs, d, hb, h => by
    have hsz := tyB_size hT hb
    simp only [tyB] at hb
    split at hb
    · simp at hb
    rename_i e he
    simp only [Bool.and_eq_true, decide_eq_true_eq] at hb
    obtain ⟨hty, hb⟩ := hb
    obtain ⟨hm, hid⟩ := Tab.te_mem he
    have hd := (hT e hm).desc
    rw [hid] at hd
    rw [hty] at hd
    unfold DataW.trod at h
    have hstruct : ∀ fs : Array Field, P.underlying tid = some (.struct fs) → (∀ (i off ft : Nat), e.fields[i]? = some (off, ft) → ∃ f : Field, fs[i]? = some f ∧ f.offset = off ∧ f.type = ft) → fsB (tyB T f) τ 0 e.fields = true → ∃ x, Rep (fun b => b < w.heap.size) w τ .ro cs x [] ∧ Wf τ x := by
      intro fs hu hf hfs
      rw [hu] at h
      simp only at h
      split at h
      · rename_i hl
        rw [hsz] at hl
        obtain ⟨r, hr, _⟩ := Option.map_eq_some_iff.1 h
        have hall := mapM_all hr
        obtain ⟨x, k1, k2⟩ := fields_rep hT (trod_rep hT fuel) (cs := cs) e.fields τ 0 hfs (by omega) (fun p hp => by
          obtain ⟨i, hi⟩ := List.getElem?_of_mem hp
          obtain ⟨fd, g1, g2, g3⟩ := hf i p.1 p.2 hi
          obtain ⟨d, hd⟩ := hall fd (by rw [← Array.getElem?_toList] at g1; exact List.mem_of_getElem? g1)
          rw [g2, g3] at hd
          exact ⟨d, hd⟩)
        rw [List.drop_zero, List.take_of_length_le (by omega)] at k1
        exact ⟨x, k1, k2⟩
      · simp at h
    cases τ with
    | int k =>
      simp only at hd
      rw [hd] at h
      rcases cs with _ | ⟨v, _ | ⟨v2, tl⟩⟩
      · simp at h
      · cases v <;> simp at h
        obtain ⟨⟨rfl, h2⟩, _⟩ := h
        simp only [Lit.wf, Bool.and_eq_true, decide_eq_true_eq] at h2
        exact ⟨_, ⟨rfl, rfl⟩, h2⟩
      · simp at h
    | bool =>
      simp only at hd
      rw [hd] at h
      rcases cs with _ | ⟨v, _ | ⟨v2, tl⟩⟩
      · simp at h
      · cases v <;> simp at h
        exact ⟨_, ⟨rfl, rfl⟩, trivial⟩
      · simp at h
    | str =>
      simp only at hd
      rw [hd] at h
      rcases cs with _ | ⟨v, _ | ⟨v2, tl⟩⟩
      · simp at h
      · cases v <;> simp at h
        exact ⟨_, ⟨rfl, rfl⟩, h.1⟩
      · simp at h
    | slice el t =>
      simp only [Bool.and_eq_true, decide_eq_true_eq] at hb
      obtain ⟨hb, hpos⟩ := hb
      simp only at hd
      rw [hd] at h
      rcases cs with _ | ⟨v, _ | ⟨v2, tl⟩⟩
      · simp at h
      · cases v with
        | slice A len cap =>
          cases A with
          | none =>
            have : len = 0 ∧ cap = 0 := by
              split at h <;> simp_all
            obtain ⟨rfl, rfl⟩ := this
            exact ⟨[], ⟨.slice none 0 0, [], [], [], rfl, rfl, ⟨rfl, rfl⟩, rfl, none, 0, rfl, Nat.le_refl _, fun _ => rfl, by simp⟩, by simp, by simp⟩
          | some a =>
            simp only at h
            split at h
            case isFalse => simp at h
            rename_i hc
            obtain ⟨_, h1, h2⟩ := hc
            obtain ⟨elems, h3, _⟩ := Option.bind_eq_some_iff.1 h
            have hsz2 := tyB_size hT hb
            have hall := mapM_all h3
            obtain ⟨xs, x, k1, k2, k3, k4⟩ := elems_rep (w := w) (e := el) (t := t) (a := a) len (fun i hi => by
              obtain ⟨d, hd⟩ := hall i (List.mem_range.2 hi)
              obtain ⟨ci, hci, hd⟩ := Option.bind_eq_some_iff.1 hd
              obtain ⟨_, g1, g2⟩ := World.cells?_some hci
              rw [hsz2] at g1 g2
              obtain ⟨x, m1, m2⟩ := trod_rep hT fuel f t el ci d hb hd
              exact ⟨ci, x, g1, g2, m1, m2⟩) hpos len (Nat.le_refl _)
            refine ⟨x, ⟨.slice (some a) len cap, xs, [], [], rfl, rfl, k2, rfl, some a, cap, by rw [k1], by rw [k1]; exact h1, fun h => by simp at h, fun j u hu => ?_⟩, by show x.length ≤ maxLen; omega, k3⟩
            obtain ⟨m1, m2⟩ := k4 j u hu
            exact ⟨a, rfl, m1, m2⟩
        | _ => simp at h
      · simp at h
    | unit =>
      simp only at hd hb
      obtain ⟨fs, hu, hf⟩ := hd
      exact hstruct fs hu hf hb
    | pair a b =>
      simp only at hd hb
      obtain ⟨fs, hu, hf⟩ := hd
      exact hstruct fs hu hf hb
end
end Go.FP

/- A law's row: what comes in, and what the law says. Conditions: none. -/
namespace Go.FP
open Go.RowKit Go.WideShapes
set_option linter.unusedVariables false

theorem open_val {H : Type} {enc : TypeId × Value → H} {P : Program} {w : World} {spare : Nat → Bool} {held : Bool} {T : Tab} (hT : TabOk P T) {r : Go.Reach} {b0 f : Nat} {τ : Ty} {tid : TypeId} (hb : tyB T f τ tid = true) {v : Value} (hval : Value.okWide P w r b0 tid v) {d : DataW H} {ps : List MemPlace} (hd : DataW.Trod enc P w 0 spare held tid v d ps) :
    ∃ x, RVRel (fun b => b < w.heap.size) w (.val τ x) v ∧ Wf τ x := by
  obtain ⟨fuel, hf⟩ := hd
  obtain ⟨x, h1, h2⟩ := trod_rep hT _ _ _ _ _ _ hb hf
  refine ⟨x, ⟨v.cells.toList, ?_, h1⟩, h2⟩
  obtain ⟨e, he, rfl⟩ := tyB_te hb
  obtain ⟨hm, rfl⟩ := Tab.te_mem he
  have hd := (hT e hm).desc
  cases hτ : e.ty with
  | int k => rw [hτ] at hd; obtain ⟨n, rfl⟩ := okWide_int hd hval; rfl
  | bool => rw [hτ] at hd; obtain ⟨n, rfl⟩ := okWide_bool hd hval; rfl
  | str => rw [hτ] at hd; obtain ⟨n, rfl⟩ := okWide_string hd hval; rfl
  | slice el t => rw [hτ] at hd; obtain ⟨a, l, c, rfl⟩ := okWide_slice hd hval; rfl
  | unit =>
    rw [hτ] at hd
    obtain ⟨fs, hu, _⟩ := hd
    simp only [Value.okWide, hu] at hval
    obtain ⟨cs, rfl, _⟩ := hval
    simp [mkV, Ty.isAgg, Value.cells]
  | pair a b =>
    rw [hτ] at hd
    obtain ⟨fs, hu, _⟩ := hd
    simp only [Value.okWide, hu] at hval
    obtain ⟨cs, rfl, _⟩ := hval
    simp [mkV, Ty.isAgg, Value.cells]

/-- A law's call: true, and nothing that was there has turned. -/
theorem law_call {P : Program} {f : FuncId} {fr : Bool} {args : List RV} {vals : List Value} {w : World} (hs : FnSpec P f [(.bool, fr)] args [⟨.bool, true⟩]) (hv : RVRels (fun b => b < w.heap.size) w args vals) :
    Calls P f vals.toArray w fun e w' => e = .returned (.bool true) ∧ Below w.heap.size w w' := by
  refine (hs _ w vals hv).mono fun e w' ⟨chs, bs, he, hb, hr, _⟩ => ⟨?_, hb⟩
  obtain ⟨x, xs', ch, chs', b, b', e1, e2, e3, h1, h2⟩ := hr
  simp only [List.cons.injEq, Sigma.mk.injEq, heq_eq_eq, true_and] at e1
  obtain ⟨rfl, rfl⟩ := e1
  obtain ⟨_, rfl, rfl⟩ := h2
  have hch : ch = [.bool true] := by
    cases fr <;> exact h1.1
  rw [he, e2, hch]
  rfl
end Go.FP
