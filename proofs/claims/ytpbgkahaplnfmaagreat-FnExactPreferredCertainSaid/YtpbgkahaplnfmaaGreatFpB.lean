/- How Go values lie in memory, and an evaluator of code with its soundness (part 2 of 6). Conditions: those that stand in each theorem; nothing is assumed of any program. -/
import Derived.Test.YtpbgkahaplnfmaaGreatFpA
import Derived.Tactics
import Derived.WalkKit
import Derived.Laws.StructEq
import Derived.Laws.Cells
import Derived.Laws.MakeOwn
import Derived.Laws.OwnMore
import Derived.Laws.AppendOwnNone
import Derived.Maps.AppendAt

set_option linter.unusedVariables false
set_option linter.unusedSimpArgs false
set_option linter.unnecessarySimpa false

namespace Go.FP
open Go.RowKit
theorem RP.pullN {c : Cx} {env : Env} {tmps : Array Value} {w : World} {ps : Nat -> AV} {vs : Nat -> Value} (h : RP c env tmps w ps vs) (hs : ∀ r, Settled (ps r)) (s : Nat) : RP c (pullN s env) tmps w ps vs /\ (Go.FP.pullN s env).length = env.length := ⟨h, rfl⟩
theorem RP.pullRes {c : Cx} {tmps : Array Value} {w : World} {ps : Nat -> AV} {vs : Nat -> Value} (hs : ∀ r, Settled (ps r)) : ∀ (rs : List (Ty × Lvl)) (vars : List ResultVar) {env : Env}, RP c env tmps w ps vs -> RP c (pullRes rs vars env) tmps w ps vs
 | [], vars, env, h => by cases vars <;> exact h
 | p :: rs, [], env, h => h
 | (t, fr) :: rs, v :: vars, env, h => by
  unfold Go.FP.pullRes
  refine RP.pullRes hs rs vars ?_
  split
  ·exact (h.pullN hs _).1
  ·exact h
end Go.FP

namespace Go.FP
open Go.RowKit
def zeroVal (t : Ty) : Value := if t.isAgg then .agg (zeroCells t).toArray else (zeroCells t).headD undef
def EqFs (P : Program) : List Field -> List Ty -> Nat -> Prop
 | [], [], _ => True
 | f :: fs, t :: ts, off => (f.name ≠ "_" /\ f.offset = off /\ (∀ w, (isAgg f.type).run P w = .ok false w) /\ match t with
   | .int k => P.underlying f.type = some (.int k)
   | .bool => P.underlying f.type = some .bool
   | .str => P.underlying f.type = some .string
   | _ => False) /\ EqFs P fs ts (off + 1)
 | _, _, _ => False
structure TEOk (P : Program) (e : TE) : Prop where
 func : e.fn = true -> ∃ i z ps rs v, P.info? e.id = some i /\ i.size = 1 /\ i.zero = some z /\ z.oneCell' = true /\ P.underlying e.id = some (.func ps rs v)
 info : e.fn = false -> ∃ i, P.info? e.id = some i /\ i.size = e.ty.sz /\ i.bytes = e.bytes /\ i.zero = some (zeroVal e.ty)
 desc : e.fn = false -> match e.ty with
  | .int k => P.underlying e.id = some (.int k)
  | .bool => P.underlying e.id = some .bool
  | .str => P.underlying e.id = some .string
  | .slice el _ => P.underlying e.id = some (.slice el)
  | _ => ∃ fs, P.underlying e.id = some (.struct fs) /\ ∀ (i off ft : Nat), e.fields[i]? = some (off, ft) -> ∃ f : Field, fs[i]? = some f /\ f.offset = off /\ f.type = ft
 places : e.fn = false -> e.ty.isAgg = true -> ∃ (fs : Array Field) (pl : List (Nat × Nat)), P.underlying e.id = some (.struct fs) /\ fs.toList.mapM (fun f => (P.info? f.type).map fun i => (f.offset, i.size)) = some pl
 eqs : e.eq = true -> (P.eqGuardType P.depth e.id = false /\ P.stoodInHeld e.id = false) /\ ∃ fs : Array Field, P.underlying e.id = some (.struct fs) /\ EqFs P fs.toList (flat e.ty) 0
def TabOk (P : Program) (T : Tab) : Prop := ∀ e ∈ T, TEOk P e
theorem Tab.isFn_mem : ∀ {T : Tab} {t : TypeId}, T.isFn t = true -> ∃ e ∈ T, e.fn = true /\ e.id = t
 | [], t, h => by simp [Tab.isFn] at h
 | e0 :: T, t, h => by
  simp only [Tab.isFn, Bool.or_eq_true, Bool.and_eq_true, decide_eq_true_eq] at h
  rcases h with h | h
  ·exact ⟨e0, List.mem_cons_self, h⟩
  ·obtain ⟨e, h1, h2⟩ := Tab.isFn_mem h
   exact ⟨e, List.mem_cons_of_mem _ h1, h2⟩
theorem Tab.te_mem : ∀ {T : Tab} {t : TypeId} {e : TE}, T.te t = some e -> e ∈ T /\ (e.id = t /\ e.fn = false)
 | [], t, e, h => by simp [Tab.te] at h
 | e0 :: T, t, e, h => by
  unfold Tab.te at h
  split at h
  ·rename_i he
   simp only [Option.some.injEq] at h
   subst h
   exact ⟨List.mem_cons_self, he⟩
  ·have := Tab.te_mem h
   exact ⟨List.mem_cons_of_mem _ this.1, this.2⟩
theorem Tab.ty_te {T : Tab} {t : TypeId} {τ : Ty} (h : T.ty t = some τ) : ∃ e, T.te t = some e /\ e.ty = τ := by
 unfold Tab.ty at h
 split at h
 ·rename_i e he
  exact ⟨e, he, by simpa using h⟩
 ·simp at h
section
variable {P : Program} {T : Tab} (hT : TabOk P T)
include hT
theorem TabOk.info {t : TypeId} {τ : Ty} (h : T.ty t = some τ) : ∃ i, P.info? t = some i /\ i.size = τ.sz /\ i.zero = some (zeroVal τ) := by
 obtain ⟨e, h1, rfl⟩ := Tab.ty_te h
 obtain ⟨h2, rfl, hfn⟩ := Tab.te_mem h1
 obtain ⟨i, k1, k2, _, k3⟩ := (hT e h2).info hfn
 exact ⟨i, k1, k2, k3⟩
theorem TabOk.fn {t : TypeId} (h : T.isFn t = true) : ∃ i z ps rs v, P.info? t = some i /\ i.size = 1 /\ i.zero = some z /\ z.oneCell' = true /\ P.underlying t = some (.func ps rs v) := by
 obtain ⟨e, h1, h2, rfl⟩ := Tab.isFn_mem h
 exact (hT e h1).func h2
theorem TabOk.agg {t : TypeId} {τ : Ty} (h : T.ty t = some τ) (w : World) : (isAgg t).run P w = .ok τ.isAgg w := by
 obtain ⟨e, h1, rfl⟩ := Tab.ty_te h
 obtain ⟨h2, rfl, hfn⟩ := Tab.te_mem h1
 have := (hT e h2).desc hfn
 unfold isAgg
 cases he : e.ty with
 | int k => rw [he] at this; simp [run_underlying this, Ty.isAgg]
 | bool => rw [he] at this; simp [run_underlying this, Ty.isAgg]
 | str => rw [he] at this; simp [run_underlying this, Ty.isAgg]
 | slice el τ => rw [he] at this; simp [run_underlying this, Ty.isAgg]
 | unit => rw [he] at this; obtain ⟨fs, h3, _⟩ := this; simp [run_underlying h3, Ty.isAgg]
 | pair a b => rw [he] at this; obtain ⟨fs, h3, _⟩ := this; simp [run_underlying h3, Ty.isAgg]
theorem TabOk.sizeOf {t : TypeId} {τ : Ty} (h : T.ty t = some τ) (w : World) : (sizeOf t).run P w = .ok τ.sz w := by
 obtain ⟨i, h1, h2, _⟩ := TabOk.info hT h
 simp [Go.sizeOf, typeInfo, h1, h2]
theorem TabOk.zero {t : TypeId} {τ : Ty} (h : T.ty t = some τ) (w : World) : (zeroValue t).run P w = .ok (zeroVal τ) w := by
 obtain ⟨i, h1, _, h2⟩ := TabOk.info hT h
 simp [zeroValue, typeInfo, h1, h2]
theorem TabOk.slice {t : TypeId} {el : TypeId} {τ : Ty} (h : T.ty t = some (.slice el τ)) : P.underlying t = some (.slice el) := by
 obtain ⟨e, h1, h3⟩ := Tab.ty_te h
 obtain ⟨h2, rfl, hfn⟩ := Tab.te_mem h1
 have := (hT e h2).desc hfn
 rw [h3] at this
 exact this
theorem TabOk.str {t : TypeId} (h : T.ty t = some .str) : P.underlying t = some .string := by
 obtain ⟨e, h1, h3⟩ := Tab.ty_te h
 obtain ⟨h2, rfl, hfn⟩ := Tab.te_mem h1
 have := (hT e h2).desc hfn
 rw [h3] at this
 exact this
theorem TabOk.int {t : TypeId} {k : IntKind} (h : T.ty t = some (.int k)) : P.underlying t = some (.int k) := by
 obtain ⟨e, h1, h3⟩ := Tab.ty_te h
 obtain ⟨h2, rfl, hfn⟩ := Tab.te_mem h1
 have := (hT e h2).desc hfn
 rw [h3] at this
 exact this
theorem TabOk.field {s : TypeId} {f off : Nat} {τ : Ty} (h : fieldAt T s f = some (off, τ)) : ∃ fs fd, P.underlying s = some (.struct fs) /\ fs[f]? = some fd /\ fd.offset = off /\ T.ty fd.type = some τ /\ τ.sz ≠ 0 := by
 unfold fieldAt at h
 split at h
 ·rename_i e he
  obtain ⟨h2, rfl, hfn⟩ := Tab.te_mem he
  split at h
  ·rename_i off' ft hf
   split at h
   ·rename_i t ht
    split at h
    ·simp at h
    ·rename_i hsz
     simp only [Option.some.injEq, Prod.mk.injEq] at h
     obtain ⟨rfl, rfl⟩ := h
     have := (hT e h2).desc hfn
     cases he2 : e.ty with
     | int k => exact absurd (.inr (by rw [he2]; rfl)) hsz
     | bool => exact absurd (.inr (by rw [he2]; rfl)) hsz
     | str => exact absurd (.inr (by rw [he2]; rfl)) hsz
     | slice el τ => exact absurd (.inr (by rw [he2]; rfl)) hsz
     | unit => rw [he2] at this; obtain ⟨fs, h3, h4⟩ := this; obtain ⟨fd, h5, h6, h7⟩ := h4 _ _ _ hf; exact ⟨fs, fd, h3, h5, h6, by rw [h7]; exact ht, fun h0 => hsz (.inl h0)⟩
     | pair a b => rw [he2] at this; obtain ⟨fs, h3, h4⟩ := this; obtain ⟨fd, h5, h6, h7⟩ := h4 _ _ _ hf; exact ⟨fs, fd, h3, h5, h6, by rw [h7]; exact ht, fun h0 => hsz (.inl h0)⟩
   ·simp at h
  ·simp at h
 ·simp at h
theorem TabOk.elem {t : TypeId} {te : TE} (h : elemAt T t = some te) : T.ty t = some (.slice te.id te.ty) /\ P.underlying t = some (.slice te.id) /\ T.ty te.id = some te.ty /\ 0 < te.ty.sz /\ 0 < te.bytes /\ ∃ i, P.info? te.id = some i /\ i.size = te.ty.sz /\ i.bytes = te.bytes /\ i.zero = some (zeroVal te.ty) := by
 unfold elemAt at h
 split at h
 ·rename_i e τ he
  split at h
  ·rename_i te' hte
   split at h
   ·rename_i hc
    simp only [Option.some.injEq] at h
    subst h
    obtain ⟨h2, rfl, hfn⟩ := Tab.te_mem hte
    obtain ⟨rfl, h3, h4⟩ := hc
    exact ⟨he, TabOk.slice hT he, by unfold Tab.ty; rw [hte], h3, h4, (hT _ h2).info hfn⟩
   ·simp at h
  ·simp at h
 ·simp at h
end
theorem RE.commit {c : Cx} {env : Env} {tmps : Array Value} {w : World} {vs : Nat -> Value} {d : Nat} {av : AV} (h : RP c env tmps w (upd noP env.length av) vs) (hd : d < env.length) : RE c (setD (some d) env av) (tmps.setIfInBounds d (vs env.length)) w := by
 have := h.commit (Nat.le_refl _) hd (fun r hr => by rw [Y3 _ _ hr]; exact .inl rfl)
 rw [Y0] at this
 have e : upd (upd noP env.length av) env.length .undef = noP := by funext r; simp only [upd, noP]; split <;> rfl
 rw [e] at this
 exact ⟨vs, this⟩
section
variable {P : Program} {o : Oper} {a : Act} {w : World} {R : Type} {K : Env -> Option R} {r : R} {next : Act -> World -> Prop} {Q : Exit -> Act -> World -> Prop} {c : Cx} {d : Nat}
def Next (c : Cx) (a : Act) (K : Env -> Option R) (r : R) (N : Nat) (next : Act -> World -> Prop) : Prop :=
 ∀ env' a' w', K env' = some r -> RE c env' a'.tmps w' -> env'.length = N -> a'.defers = a.defers -> next a' w'
theorem Y1c (dst : Option Nat) (env : Env) (v : AV) : (setD dst env v).length = env.length := by
 unfold setD
 split
 ·split <;> simp [Y7, Y16]
 ·rfl
theorem fin {env1 : Env} {w' : World} {av : AV} {v : Value} {vs : Nat -> Value} {N : Nat} (hdst : o.dst = some d) (hrun : (execOp a.eval o).run P w = .ok (.value v) w') (hd : d < env1.length) (hN : env1.length = N)
  (h : RP c env1 a.tmps w' (upd noP env1.length av) vs) (hv : vs env1.length = v) (hK : K (setD (some d) env1 av) = some r) (hn : Next c a K r N next) : o.wp P a w next Q := by
 unfold Oper.wp
 rw [hrun]
 show next (a.put o.dst v) w'
 rw [hdst]
 have := RE.commit h hd
 rw [hv] at this
 exact hn _ _ _ hK this (by rw [Y1c, hN]) rfl
theorem finV {env : Env} {av : AV} {v : Value} (hr : RE c env a.tmps w) (hdst : o.dst = some d) (hrun : (execOp a.eval o).run P w = .ok (.value v) w) (hd : d < env.length)
  (hv : ∀ vs cs bs, Rel c (SS env noP a.tmps vs w cs bs) -> ∃ cells, ValC c (SS env noP a.tmps vs w cs bs) av v cells) (href : (∀ q ∈ av.refs, q.1 < env.length) /\ (∀ q ∈ av.ptrs, q < env.length))
  (hK : K (setD (some d) env av) = some r) (hn : Next c a K r env.length next) : o.wp P a w next Q := by
 obtain ⟨vs, h⟩ := hr
 have := h.addVal (Nat.le_refl _) rfl (fun cs bs hr => hv vs cs bs hr) href
 exact fin hdst hrun hd rfl this (Y0 _ _ _) hK hn
theorem RE.val {c : Cx} {env : Env} {tmps : Array Value} {w : World} (hr : RE c env tmps w) (ty : Option Ty) (x : Operand) : ∀ vs cs bs, Rel c (SS env noP tmps vs w cs bs) -> ∃ cells, ValC c (SS env noP tmps vs w cs bs) (rd ty env x) (evT tmps x) cells :=
 fun vs cs bs h => Yg hr.choose_spec.len h ty x
theorem RE.refs {c : Cx} {env : Env} {tmps : Array Value} {w : World} (hr : RE c env tmps w) (ty : Option Ty) (x : Operand) : (∀ q ∈ (rd ty env x).refs, q.1 < env.length) /\ (∀ q ∈ (rd ty env x).ptrs, q < env.length) :=
 Y5l hr.choose_spec ty x
theorem Y2g {c : Cx} {s : St} {lf : Leaf} {v : Value} {cells : List Value} (h : ValC c s (.con .val [lf]) v cells) (hl : lf.m.live = true) : ∃ S, Rep S s.w lf.t .ro [v] lf.x [] := by
 obtain ⟨⟨rfl, _⟩, _, h3⟩ := h
 have := h3 0 lf v rfl rfl
 obtain ⟨t, x, m⟩ := lf
 cases m with
 | at_ lv => exact ⟨_, Rep.ro this.1⟩
 | bor r j p => exact ⟨_, this.1⟩
 | dead => simp [Mode.live] at hl
theorem RE.int1 {c : Cx} {env : Env} {tmps : Array Value} {w : World} (hr : RE c env tmps w) {ty : Option Ty} {x : Operand} {k : IntKind} {n : Int} (h : int1 (rd ty env x) = some (k, n)) : evT tmps x = .int k n := by
 obtain ⟨vs, h0⟩ := hr
 obtain ⟨cs, bs, h1, _⟩ := h0.rel
 obtain ⟨cells, hv⟩ := Yg h0.len h1 ty x
 unfold Go.FP.int1 at h
 split at h
 ·rename_i k' n' lv heq
  rw [heq] at hv
  simp only [Option.some.injEq, Prod.mk.injEq] at h
  obtain ⟨rfl, rfl⟩ := h
  obtain ⟨S, hS⟩ := Y2g hv rfl
  simpa using hS.1
 ·simp at h
theorem RE.bool1 {c : Cx} {env : Env} {tmps : Array Value} {w : World} (hr : RE c env tmps w) {ty : Option Ty} {x : Operand} {b : Bool} (h : bool1 (rd ty env x) = some b) : evT tmps x = .bool b := by
 obtain ⟨vs, h0⟩ := hr
 obtain ⟨cs, bs, h1, _⟩ := h0.rel
 obtain ⟨cells, hv⟩ := Yg h0.len h1 ty x
 unfold Go.FP.bool1 at h
 split at h
 ·rename_i b' lv heq
  rw [heq] at hv
  simp only [Option.some.injEq] at h
  subst h
  obtain ⟨S, hS⟩ := Y2g hv rfl
  simpa using hS.1
 ·simp at h
theorem RE.str1 {c : Cx} {env : Env} {tmps : Array Value} {w : World} (hr : RE c env tmps w) {ty : Option Ty} {x : Operand} {b : ByteArray} (h : str1 (rd ty env x) = some b) : evT tmps x = .string b := by
 obtain ⟨vs, h0⟩ := hr
 obtain ⟨cs, bs, h1, _⟩ := h0.rel
 obtain ⟨cells, hv⟩ := Yg h0.len h1 ty x
 unfold Go.FP.str1 at h
 split at h
 ·rename_i b' lv heq
  rw [heq] at hv
  simp only [Option.some.injEq] at h
  subst h
  obtain ⟨S, hS⟩ := Y2g hv rfl
  simpa using hS.1
 ·simp at h
theorem Y1x (c : Cx) (s : St) (k : IntKind) (n : Int) : ∃ cells, ValC c s (vInt k n) (.int k n) cells := ⟨[.int k n], ⟨rfl, rfl⟩, rfl, fun l lf u hl hu => by
 rw [Y1] at hl
 cases l with
 | zero => simp only [List.getElem?_cons_zero, Option.some.injEq] at hl hu; subst hl; subst hu; exact ⟨⟨rfl, rfl⟩, trivial⟩
 | succ l => simp at hl⟩
theorem Y24 (c : Cx) (s : St) (b : Bool) : ∃ cells, ValC c s (vBool b) (.bool b) cells := ⟨[.bool b], ⟨rfl, rfl⟩, rfl, fun l lf u hl hu => by
 rw [Y1] at hl
 cases l with
 | zero => simp only [List.getElem?_cons_zero, Option.some.injEq] at hl hu; subst hl; subst hu; exact ⟨⟨rfl, rfl⟩, trivial⟩
 | succ l => simp at hl⟩
theorem Y7g (c : Cx) (s : St) (b : ByteArray) : ∃ cells, ValC c s (vStr b) (.string b) cells := ⟨[.string b], ⟨rfl, rfl⟩, rfl, fun l lf u hl hu => by
 rw [Y1] at hl
 cases l with
 | zero => simp only [List.getElem?_cons_zero, Option.some.injEq] at hl hu; subst hl; subst hu; exact ⟨⟨rfl, rfl⟩, trivial⟩
 | succ l => simp at hl⟩
theorem Y1g {k : IntKind} {n : Int} {N : Nat} : (∀ q ∈ (vInt k n).refs, q.1 < N) /\ (∀ q ∈ (vInt k n).ptrs, q < N) := ⟨by simp [vInt, AV.refs, Leaf.refs], by simp [vInt, AV.ptrs]⟩
theorem Y25 {b : Bool} {N : Nat} : (∀ q ∈ (vBool b).refs, q.1 < N) /\ (∀ q ∈ (vBool b).ptrs, q < N) := ⟨by simp [vBool, AV.refs, Leaf.refs], by simp [vBool, AV.ptrs]⟩
theorem Y8k {b : ByteArray} {N : Nat} : (∀ q ∈ (vStr b).refs, q.1 < N) /\ (∀ q ∈ (vStr b).ptrs, q < N) := ⟨by simp [vStr, AV.refs, Leaf.refs], by simp [vStr, AV.ptrs]⟩
theorem Ydb {T : Tab} {env : Env} {x : Operand} (hop : o.op = .move x) (hdst : o.dst = some d) (hr : RE c env a.tmps w) (hd : d < env.length) (hK : K (setD (some d) env (rd (T.ty o.type) env x)) = some r) (hn : Next c a K r env.length next) : o.wp P a w next Q :=
 finV hr hdst (v := evT a.tmps x) (by simp [execOp, hop, Y5]) hd (hr.val _ x) (hr.refs _ x) hK hn
theorem Ybw {T : Tab} {env env' : Env} {av : AV} {x : Operand} (hop : o.op = .assign x) (hdst : o.dst = some d) (hr : RE c env a.tmps w) (hd : d < env.length) (ht : takeIn (T.ty o.type) env x = some (env', av)) (hK : K (setD (some d) env' av) = some r) (hn : Next c a K r env.length next) : o.wp P a w next Q := by
 obtain ⟨vs, h⟩ := hr
 obtain ⟨hl, h1⟩ := Y11 h (fun r => .inl rfl) ht (Nat.le_refl _) rfl
 rw [<- hl] at h1
 exact fin hdst (v := evT a.tmps x) (by simp [execOp, hop, Y5]) (by rw [hl]; exact hd) hl h1 (Y0 _ _ _) hK hn
theorem Yas {T : Tab} {env : Env} {x : Operand} (hop : o.op = .assign x) (hdst : o.dst = some d) (hr : RE c env a.tmps w) (hd : d < env.length) (hK : K (setD (some d) env (rd (T.ty o.type) env x)) = some r) (hn : Next c a K r env.length next) : o.wp P a w next Q :=
 finV hr hdst (v := evT a.tmps x) (by simp [execOp, hop, Y5]) hd (hr.val _ x) (hr.refs _ x) hK hn
theorem Ydc {T : Tab} {env : Env} {cc x y : Operand} {t : Bool} (hop : o.op = .pick cc x y) (hdst : o.dst = some d) (hr : RE c env a.tmps w) (hd : d < env.length) (hb : bool1 (rd none env cc) = some t)
  (hK : (bif t then K (setD (some d) env (rd (T.ty o.type) env x)) else K (setD (some d) env (rd (T.ty o.type) env y))) = some r) (hn : Next c a K r env.length next) : o.wp P a w next Q := by
 have hc := hr.bool1 hb
 cases t with
 | true => exact finV hr hdst (v := evT a.tmps x) (by simp [execOp, hop, Y5, hc, asBool]) hd (hr.val _ x) (hr.refs _ x) hK hn
 | false => exact finV hr hdst (v := evT a.tmps y) (by simp [execOp, hop, Y5, hc, asBool]) hd (hr.val _ y) (hr.refs _ y) hK hn
end
end Go.FP

namespace Go.FP
open Go.RowKit
theorem Y1h {α : Type} {b : Bool} {x : Option α} {r : α} (h : (bif b then x else none) = some r) : b = true /\ x = some r := by
 cases b with
 | true => exact ⟨rfl, h⟩
 | false => simp at h
theorem Y2h {α : Type} {b : Bool} {x : Option α} {r : α} (h : (bif b then none else x) = some r) : b = false /\ x = some r := by
 cases b with
 | false => exact ⟨rfl, h⟩
 | true => simp at h
section
variable {P : Program} {o : Oper} {a : Act} {w : World} {R : Type} {K : Env -> Option R} {r : R} {next : Act -> World -> Prop} {Q : Exit -> Act -> World -> Prop} {c : Cx} {d : Nat} {T : Tab} {env : Env}
theorem Ydn {op : BinOp} {k : IntKind} {x y : Int} {K : AV -> Option R} (h : intOp op k x y K = some r) :
  ∃ av v, K av = some r /\ (∀ w, (Go.binOp op 0 (.int k x) (.int k y)).run P w = .ok v w) /\ (∀ t w, (Go.binOp op t (.int k x) (.int k y)).run P w = .ok v w) /\ (∀ c s, ∃ cells, ValC c s av v cells) /\ (∀ N : Nat, (∀ q ∈ av.refs, q.1 < N) /\ (∀ q ∈ av.ptrs, q < N)) := by
 have fi : ∀ n, K (vInt k n) = some r -> (∀ t w, (Go.binOp op t (.int k x) (.int k y)).run P w = .ok (.int k n) w) -> _ := fun n h1 h2 =>
  (⟨vInt k n, .int k n, h1, h2 0, h2, fun c s => Y1x c s k n, fun N => Y1g⟩ : ∃ av v, K av = some r /\ (∀ w, (Go.binOp op 0 (.int k x) (.int k y)).run P w = .ok v w) /\ (∀ t w, (Go.binOp op t (.int k x) (.int k y)).run P w = .ok v w) /\ (∀ c s, ∃ cells, ValC c s av v cells) /\ (∀ N : Nat, (∀ q ∈ av.refs, q.1 < N) /\ (∀ q ∈ av.ptrs, q < N)))
 have fb : ∀ n, K (vBool n) = some r -> (∀ t w, (Go.binOp op t (.int k x) (.int k y)).run P w = .ok (.bool n) w) -> _ := fun n h1 h2 =>
  (⟨vBool n, .bool n, h1, h2 0, h2, fun c s => Y24 c s n, fun N => Y25⟩ : ∃ av v, K av = some r /\ (∀ w, (Go.binOp op 0 (.int k x) (.int k y)).run P w = .ok v w) /\ (∀ t w, (Go.binOp op t (.int k x) (.int k y)).run P w = .ok v w) /\ (∀ c s, ∃ cells, ValC c s av v cells) /\ (∀ N : Nat, (∀ q ∈ av.refs, q.1 < N) /\ (∀ q ∈ av.ptrs, q < N)))
 cases op with
 | add => exact fi _ h (fun t w => by simp [Go.binOp, Op.intArith])
 | sub => exact fi _ h (fun t w => by simp [Go.binOp, Op.intArith])
 | mul => exact fi _ h (fun t w => by simp [Go.binOp, Op.intArith])
 | quo =>
  obtain ⟨h1, h2⟩ := Y2h h
  have h1 : y ≠ 0 := by simpa using h1
  exact fi _ h2 (fun t w => by simp [Go.binOp, Op.intDiv, h1])
 | rem =>
  obtain ⟨h1, h2⟩ := Y2h h
  have h1 : y ≠ 0 := by simpa using h1
  exact fi _ h2 (fun t w => by simp [Go.binOp, Op.intDiv, h1])
 | and => exact fi _ h (fun t w => by simp [Go.binOp, Op.intBits])
 | xor => exact fi _ h (fun t w => by simp [Go.binOp, Op.intBits])
 | or => exact fi _ h (fun t w => by simp [Go.binOp, Op.intBits])
 | shr =>
  obtain ⟨h1, h2⟩ := Y2h h
  have h1 : ¬ y < 0 := by simpa using h1
  exact fi _ h2 (fun t w => by simp [Go.binOp, Op.shift, h1])
 | shl =>
  obtain ⟨h1, h2⟩ := Y2h h
  have h1 : ¬ y < 0 := by simpa using h1
  exact fi _ h2 (fun t w => by simp [Go.binOp, Op.shift, h1])
 | eql => exact fb _ h (fun t w => by simp [Go.binOp, Op.intCmp])
 | neq => exact fb _ h (fun t w => by simp [Go.binOp, Op.intCmp])
 | lss => exact fb _ h (fun t w => by simp [Go.binOp, Op.intCmp])
 | leq => exact fb _ h (fun t w => by simp [Go.binOp, Op.intCmp])
 | gtr => exact fb _ h (fun t w => by simp [Go.binOp, Op.intCmp])
 | geq => exact fb _ h (fun t w => by simp [Go.binOp, Op.intCmp])
 | _ => simp [intOp] at h
theorem Ych {op : BinOp} {k k' : IntKind} {x y : Int} {K : AV -> Option R} (h : shiftOp op k x y K = some r) :
  ∃ av v, K av = some r /\ (∀ t w, (Go.binOp op t (.int k x) (.int k' y)).run P w = .ok v w) /\ (∀ c s, ∃ cells, ValC c s av v cells) /\ (∀ N : Nat, (∀ q ∈ av.refs, q.1 < N) /\ (∀ q ∈ av.ptrs, q < N)) := by
 cases op with
 | shr =>
  obtain ⟨h1, h2⟩ := Y2h h
  have h1 : ¬ y < 0 := by simpa using h1
  exact ⟨_, _, h2, fun t w => by simp [Go.binOp, Op.shift, h1], fun c s => Y1x c s k _, fun N => Y1g⟩
 | shl =>
  obtain ⟨h1, h2⟩ := Y2h h
  have h1 : ¬ y < 0 := by simpa using h1
  exact ⟨_, _, h2, fun t w => by simp [Go.binOp, Op.shift, h1], fun c s => Y1x c s k _, fun N => Y1g⟩
 | _ => simp [shiftOp] at h
theorem Ydo {op : BinOp} {x y : ByteArray} {K : AV -> Option R} (h : strOp op x y K = some r) :
  ∃ av v, K av = some r /\ (∀ t w, (Go.binOp op t (.string x) (.string y)).run P w = .ok v w) /\ (∀ c s, ∃ cells, ValC c s av v cells) /\ (∀ N : Nat, (∀ q ∈ av.refs, q.1 < N) /\ (∀ q ∈ av.ptrs, q < N)) := by
 have fb : ∀ n, K (vBool n) = some r -> (∀ t w, (Go.binOp op t (.string x) (.string y)).run P w = .ok (.bool n) w) -> _ := fun n h1 h2 =>
  (⟨vBool n, .bool n, h1, h2, fun c s => Y24 c s n, fun N => Y25⟩ : ∃ av v, K av = some r /\ (∀ t w, (Go.binOp op t (.string x) (.string y)).run P w = .ok v w) /\ (∀ c s, ∃ cells, ValC c s av v cells) /\ (∀ N : Nat, (∀ q ∈ av.refs, q.1 < N) /\ (∀ q ∈ av.ptrs, q < N)))
 cases op with
 | add =>
  obtain ⟨h1, h2⟩ := Y1h h
  have h1 : x.size + y.size <= 140737488355328 := by simpa using h1
  refine ⟨vStr (x ++ y), .string (x ++ y), h2, fun t w => ?_, fun c s => Y7g c s _, fun N => Y8k⟩
  simp [Go.binOp, Op.stringOp]
  omega
 | eql => exact fb _ h (fun t w => by simp [Go.binOp, Op.stringOp])
 | neq => exact fb _ h (fun t w => by simp [Go.binOp, Op.stringOp])
 | lss => exact fb _ h (fun t w => by simp [Go.binOp, Op.stringOp])
 | geq => exact fb _ h (fun t w => by simp [Go.binOp, Op.stringOp])
 | _ => simp [strOp] at h
theorem Y7m (op : BinOp) (t : TypeId) (x y : Operand) (k k' : IntKind) (n m : Int) (w : World) : (eqGuard op t x y (.int k n) (.int k' m)).run P w = .ok () w := by
 unfold eqGuard; cases op <;> simp
theorem Ybx (op : BinOp) (t : TypeId) (x y : Operand) (n m : ByteArray) (w : World) : (eqGuard op t x y (.string n) (.string m)).run P w = .ok () w := by
 unfold eqGuard; cases op <;> simp
theorem Y6l (op : BinOp) (t : TypeId) (x y : Operand) (n m : Bool) (w : World) : (eqGuard op t x y (.bool n) (.bool m)).run P w = .ok () w := by
 unfold eqGuard; cases op <;> simp
def Leaf.cell (l : Leaf) : Value := match l with
 | ⟨.int k, a, _⟩ => .int k a
 | ⟨.bool, a, _⟩ => .bool a
 | ⟨.str, a, _⟩ => .string a
 | _ => undef
theorem Y7n {t : TypeId} (ha : ∀ w, (isAgg t).run P w = .ok false w) {xs : Array Value} {off : Nat} {v : Value} (h : xs[off]? = some v) (w : World) : (part t xs off).run P w = .ok v w := by
 unfold part
 simp only [Sem.run_bind, ha, Result.andThen_ok, Bool.false_eq_true, if_false, h, Sem.run_pure]
theorem Yat {l m : Leaf} {z : Bool} (h : eqLeaf l m = some z) {ft : TypeId} (hu : match l.t with
   | .int k => P.underlying ft = some (.int k)
   | .bool => P.underlying ft = some .bool
   | .str => P.underlying ft = some .string
   | _ => False) (w : World) (d : Nat) : (Op.equalIn (d + 1) ft l.cell m.cell).run P w = .ok z w := by
 unfold eqLeaf at h
 split at h
 ·split at h
  ·rename_i hk
   subst hk
   simp only [Option.some.injEq] at h
   subst h
   exact run_equalIn_int w d ft _ _ _ _ hu
  ·cases h
 ·simp only [Option.some.injEq] at h
  subst h
  exact run_equalIn_bool' w d ft _ _ hu
 ·simp only [Option.some.injEq] at h
  subst h
  exact run_equalIn_string w d ft _ _ hu
 ·cases h
theorem Y7o {l m : Leaf} {ls ms : List Leaf} {z : Bool} (h : eqLs (l :: ls) (m :: ms) = some z) : ∃ a, eqLeaf l m = some a /\ ((ls = [] /\ ms = [] /\ z = a) \/ ∃ b, eqLs ls ms = some b /\ z = (a && b)) := by
 cases ls with
 | nil => cases ms with
  | nil => exact ⟨z, h, .inl ⟨rfl, rfl, rfl⟩⟩
  | cons m' ms =>
   simp only [eqLs] at h
   split at h
   ·rename_i a b h1 h2; cases h2
   ·cases h
 | cons l' ls => cases ms with
  | nil =>
   simp only [eqLs] at h
   split at h
   ·rename_i a b h1 h2; cases h2
   ·cases h
  | cons m' ms =>
   simp only [eqLs] at h
   split at h
   ·rename_i a b h1 h2
    simp only [Option.some.injEq] at h
    exact ⟨a, h1, .inr ⟨b, h2, h.symm⟩⟩
   ·cases h
theorem Y4t {xs ys : Array Value} (w : World) (d : Nat) : ∀ {fs : List Field} {ls ms : List Leaf} {off : Nat} {z : Bool}, EqFs P fs (ls.map Leaf.t) off -> (∀ i l, ls[i]? = some l -> xs[off + i]? = some l.cell) -> (∀ i l, ms[i]? = some l -> ys[off + i]? = some l.cell) -> eqLs ls ms = some z -> (Op.eqFields (d + 1) xs ys fs).run P w = .ok z w
 | fs, [], ms, off, z, hf, hx, hy, h => by simp [eqLs] at h
 | fs, l :: ls, [], off, z, hf, hx, hy, h => by
  cases ls <;> simp [eqLs] at h
 | [], l :: ls, m :: ms, off, z, hf, hx, hy, h => by cases hf
 | f :: fs, l :: ls, m :: ms, off, z, hf, hx, hy, h => by
  obtain ⟨⟨h1, h2, h3, h4⟩, h5⟩ := hf
  obtain ⟨a, ha, hb⟩ := Y7o h
  have p1 := Y7n h3 (xs := xs) (off := f.offset) (v := l.cell) (by rw [h2]; exact hx 0 l rfl) w
  have p2 := Y7n h3 (xs := ys) (off := f.offset) (v := m.cell) (by rw [h2]; exact hy 0 m rfl) w
  have p3 := Yat (P := P) ha h4 w d
  simp only [Op.eqFields, Sem.run_ite, if_pos h1, Sem.run_bind, p1, p2, p3, Result.andThen_ok]
  rcases hb with ⟨rfl, rfl, rfl⟩ | ⟨b, hb, rfl⟩
  ·cases fs with
   | nil => cases z <;> simp [Op.eqFields]
   | cons g gs => cases h5
  ·have ih := Y4t w d (fs := fs) h5 (fun i l hl => by have := hx (i + 1) l hl; rw [<- Nat.add_assoc, Nat.add_right_comm] at this; exact this) (fun i l hl => by have := hy (i + 1) l hl; rw [<- Nat.add_assoc, Nat.add_right_comm] at this; exact this) hb
   cases a with
   | false => simp
   | true => simp only [Bool.not_true, Bool.false_eq_true, if_false, Bool.true_and]; exact ih
theorem Yby {S : Nat -> Prop} {w : World} {lf : Leaf} {u : Value} (hm : eqLeaf lf lf ≠ none \/ True) (hf : match lf.t with | .int _ => True | .bool => True | .str => True | _ => False) (h : Rep S w lf.t .ro [u] lf.x []) : u = lf.cell := by
 obtain ⟨t, x, m⟩ := lf
 cases t with
 | int k => have h1 := h.1; simp only [List.cons.injEq, and_true] at h1; exact h1
 | bool => have h1 := h.1; simp only [List.cons.injEq, and_true] at h1; exact h1
 | str => have h1 := h.1; simp only [List.cons.injEq, and_true] at h1; exact h1
 | _ => exact hf.elim
theorem Y9y {l m : Leaf} {z : Bool} (h : eqLeaf l m = some z) : (l.m.live = true /\ m.m.live = true) /\ (match l.t with | .int _ => True | .bool => True | .str => True | _ => False) /\ match m.t with | .int _ => True | .bool => True | .str => True | _ => False := by
 unfold eqLeaf at h
 split at h
 ·exact ⟨⟨rfl, rfl⟩, trivial, trivial⟩
 ·exact ⟨⟨rfl, rfl⟩, trivial, trivial⟩
 ·exact ⟨⟨rfl, rfl⟩, trivial, trivial⟩
 ·cases h
theorem Y7p : ∀ {ls ms : List Leaf} {z : Bool}, eqLs ls ms = some z -> (∀ l ∈ ls, l.m.live = true /\ match l.t with | .int _ => True | .bool => True | .str => True | _ => False) /\ ∀ l ∈ ms, l.m.live = true /\ match l.t with | .int _ => True | .bool => True | .str => True | _ => False
 | [], ms, z, h => by simp [eqLs] at h
 | l :: ls, [], z, h => by cases ls <;> simp [eqLs] at h
 | l :: ls, m :: ms, z, h => by
  obtain ⟨a, ha, hb⟩ := Y7o h
  obtain ⟨⟨h1, h2⟩, h3, h4⟩ := Y9y ha
  rcases hb with ⟨rfl, rfl, _⟩ | ⟨b, hb, _⟩
  ·exact ⟨fun q hq => by rw [List.mem_singleton.1 hq]; exact ⟨h1, h3⟩, fun q hq => by rw [List.mem_singleton.1 hq]; exact ⟨h2, h4⟩⟩
  ·obtain ⟨k1, k2⟩ := Y7p hb
   exact ⟨fun q hq => by
    rcases List.mem_cons.1 hq with rfl | hq
    ·exact ⟨h1, h3⟩
    ·exact k1 q hq, fun q hq => by
    rcases List.mem_cons.1 hq with rfl | hq
    ·exact ⟨h2, h4⟩
    ·exact k2 q hq⟩
theorem RE.aggV {tmps : Array Value} {env : Env} {w : World} (hr : RE c env tmps w) {ty : Option Ty} {x : Operand} {ls : List Leaf} (h : rd ty env x = .con .agg ls) (hf : ∀ l ∈ ls, l.m.live = true /\ match l.t with | .int _ => True | .bool => True | .str => True | _ => False) : evT tmps x = .agg (ls.map Leaf.cell).toArray := by
 obtain ⟨vs, h0⟩ := hr
 obtain ⟨cs, bs, h1, _⟩ := h0.rel
 obtain ⟨cells, hv⟩ := Yg h0.len h1 ty x
 rw [h] at hv
 obtain ⟨⟨e1, _⟩, e2, e3⟩ := hv
 rw [e1]
 congr 1
 congr 1
 apply List.ext_getElem?
 intro i
 rw [List.getElem?_map]
 by_cases hi : i < ls.length
 ·rw [List.getElem?_eq_getElem (by omega), List.getElem?_eq_getElem hi]
  have h4 := e3 i _ cells[i] (by rw [Y1]; exact List.getElem?_eq_getElem hi) (List.getElem?_eq_getElem (by omega))
  obtain ⟨k1, k2⟩ := hf _ (List.getElem_mem hi)
  have : ∃ S, Rep S w ls[i].t .ro [cells[i]] ls[i].x [] := by
   generalize ls[i] = lf at h4 k1
   obtain ⟨t, x, m⟩ := lf
   cases m with
   | at_ lv => exact ⟨_, Rep.ro h4.1⟩
   | bor r j p => exact ⟨_, h4.1⟩
   | dead => cases k1
  obtain ⟨S, hS⟩ := this
  rw [Yby (.inr trivial) k2 hS]
  rfl
 ·rw [List.getElem?_eq_none (by omega), List.getElem?_eq_none (by omega)]
  rfl
theorem Yci (hT : TabOk P T) {op : BinOp} {t t' : TypeId} {x y : Operand} (hop : o.op = .binOp op t x y t') (hdst : o.dst = some d) (hr : RE c env a.tmps w) (hd : d < env.length)
  (hK : aggOp T op t (rd none env x) (rd none env y) (fun v => K (setD (some d) env v)) = some r) (hn : Next c a K r env.length next) : o.wp P a w next Q := by
 unfold aggOp at hK
 split at hK
 ·rename_i ls ms hx hy
  split at hK
  ·rename_i e he
   split at hK
   ·rename_i hc
    simp only [Bool.and_eq_true] at hc
    split at hK
    ·rename_i z hz
     obtain ⟨hfl, hfm⟩ := Y7p hz
     have ex := hr.aggV hx hfl
     have ey := hr.aggV hy hfm
     obtain ⟨hm, rfl, hfn⟩ := Tab.te_mem he
     obtain ⟨⟨g1, g2⟩, fs, g3, g4⟩ := (hT e hm).eqs hc.1
     have hty : ls.map Leaf.t = flat e.ty := of_decide_eq_true hc.2.1
     have hS : P.fieldsOf e.id = fs := by unfold Program.fieldsOf; rw [g3]
     have cell : ∀ (qs : List Leaf) (i : Nat) (l : Leaf), qs[i]? = some l -> (qs.map Leaf.cell).toArray[0 + i]? = some l.cell := fun qs i l h => by
      rw [Nat.zero_add, List.getElem?_toArray, List.getElem?_map, h]; rfl
     have hrun : ∀ w, (Op.equalIn 10000 e.id (.agg (ls.map Leaf.cell).toArray) (.agg (ms.map Leaf.cell).toArray)).run P w = .ok z w := fun w => by
      rw [show (10000 : Nat) = 9999 + 1 from rfl, run_equalIn_struct w 9999 e.id _ _ (by rw [hS]; exact g3) g2, hS]
      exact Y4t w 9998 (by rw [hty]; exact g4) (cell ls) (cell ms) hz
     cases op with
     | eql =>
      refine finV hr hdst (v := .bool z) ?_ hd (fun vs cs bs _ => Y24 _ _ _) Y25 hK hn
      simp only [execOp, hop, Y5, ex, ey, Sem.run_bind, run_eqGuard_agg w _ e.id x y _ _ g1, Result.andThen_ok, run_eql_struct, hrun, Sem.run_pure]
     | neq =>
      refine finV hr hdst (v := .bool (!z)) ?_ hd (fun vs cs bs _ => Y24 _ _ _) Y25 hK hn
      simp only [execOp, hop, Y5, ex, ey, Sem.run_bind, run_eqGuard_agg w _ e.id x y _ _ g1, Result.andThen_ok, run_neq_struct, hrun, Sem.run_pure]
     | _ => simp at hK
    ·simp at hK
   ·simp at hK
  ·simp at hK
 ·simp at hK
theorem Ycj (hT : TabOk P T) {op : BinOp} {t t' : TypeId} {x y : Operand} (hop : o.op = .binOp op t x y t') (hdst : o.dst = some d) (hr : RE c env a.tmps w) (hd : d < env.length)
  (hK : binOp1 T op t (rd none env x) (rd none env y) (fun v => K (setD (some d) env v)) = some r) (hn : Next c a K r env.length next) : o.wp P a w next Q := by
 unfold binOp1 at hK
 split at hK
 ·rename_i k n k' m hx hy
  split at hK
  ·rename_i hk
   subst hk
   obtain ⟨av, v, h1, _, h2, h3, h4⟩ := Ydn (P := P) hK
   refine finV hr hdst (v := v) ?_ hd (fun vs cs bs _ => h3 _ _) (h4 _) h1 hn
   simp [execOp, hop, Y5, hr.int1 hx, hr.int1 hy, Y7m, h2]
  ·obtain ⟨av, v, h1, h2, h3, h4⟩ := Ych (P := P) (k' := k') hK
   refine finV hr hdst (v := v) ?_ hd (fun vs cs bs _ => h3 _ _) (h4 _) h1 hn
   simp [execOp, hop, Y5, hr.int1 hx, hr.int1 hy, Y7m, h2]
 ·split at hK
  ·rename_i n m hx hy
   obtain ⟨av, v, h1, h2, h3, h4⟩ := Ydo (P := P) hK
   refine finV hr hdst (v := v) ?_ hd (fun vs cs bs _ => h3 _ _) (h4 _) h1 hn
   simp [execOp, hop, Y5, hr.str1 hx, hr.str1 hy, Ybx, h2]
  ·split at hK
   ·rename_i n m hx hy
    split at hK
    ·rename_i ht
     have hu : P.underlying t = some .bool := by
      obtain ⟨e, h1, h3⟩ := Tab.ty_te ht
      obtain ⟨h2, rfl, hfn⟩ := Tab.te_mem h1
      have := (hT e h2).desc hfn
      rw [h3] at this
      exact this
     have heq : (Op.equal t (.bool n) (.bool m)).run P w = .ok (n == m) w := by
      have : ∀ dd, (Op.equalIn (dd + 1) t (.bool n) (.bool m)).run P w = .ok (n == m) w := fun dd => by simp [Op.equalIn, run_underlying hu]
      exact this 9999
     cases op with
     | eql =>
      refine finV hr hdst (v := .bool (n == m)) ?_ hd (fun vs cs bs _ => Y24 _ _ _) Y25 hK hn
      simp only [execOp, hop, Y5, hr.bool1 hx, hr.bool1 hy, Sem.run_bind, Y6l, Result.andThen_ok, Go.binOp, heq, Sem.run_pure]
     | neq =>
      refine finV hr hdst (v := .bool (!(n == m))) ?_ hd (fun vs cs bs _ => Y24 _ _ _) Y25 hK hn
      simp only [execOp, hop, Y5, hr.bool1 hx, hr.bool1 hy, Sem.run_bind, Y6l, Result.andThen_ok, Go.binOp, heq, Sem.run_pure]
     | _ => simp at hK
    ·simp at hK
   ·exact Yci hT hop hdst hr hd hK hn
theorem Ydd {op : UnOp} {t : TypeId} {x : Operand} (hop : o.op = .unOp op t x) (hdst : o.dst = some d) (hr : RE c env a.tmps w) (hd : d < env.length)
  (hK : unOp1 op (rd none env x) (fun v => K (setD (some d) env v)) = some r) (hn : Next c a K r env.length next) : o.wp P a w next Q := by
 unfold unOp1 at hK
 cases op with
 | not =>
  simp only at hK
  split at hK
  ·rename_i b hb
   exact finV hr hdst (v := .bool (!b)) (by simp [execOp, hop, Y5, hr.bool1 hb, Op.unary]) hd (fun vs cs bs _ => Y24 _ _ _) Y25 hK hn
  ·simp at hK
 | neg =>
  simp only at hK
  split at hK
  ·rename_i k n hb
   exact finV hr hdst (v := .int k (k.wrap (0 - n))) (by simp [execOp, hop, Y5, hr.int1 hb, Op.unary, Op.intArith]) hd (fun vs cs bs _ => Y1x _ _ _ _) Y1g hK hn
  ·simp at hK
 | _ => simp at hK
theorem Yau (hT : TabOk P T) {s dt : TypeId} {x : Operand} {k k' k2 : IntKind} {n : Int} (hop : o.op = .convert s dt x) (hdst : o.dst = some d) (hr : RE c env a.tmps w) (hd : d < env.length) (hs : T.ty s = some (.int k)) (ht : T.ty dt = some (.int k'))
  (hi : int1 (rd none env x) = some (k2, n)) (hK : K (setD (some d) env (vInt k' (k'.wrap n))) = some r) (hn : Next c a K r env.length next) : o.wp P a w next Q := by
 refine finV hr hdst (v := .int k' (k'.wrap n)) ?_ hd (fun vs cs bs _ => Y1x _ _ _ _) Y1g hK hn
 simp [execOp, hop, Y5, hr.int1 hi, Go.convert, run_underlying (TabOk.int hT hs), run_underlying (TabOk.int hT ht), Conv.intToInt]
theorem Yck (hT : TabOk P T) {t : TypeId} {x i : Operand} {s : ByteArray} {k : IntKind} {n : Int} (hop : o.op = .index t x i) (hdst : o.dst = some d) (hr : RE c env a.tmps w) (hd : d < env.length) (ht : T.ty t = some .str) (hs : str1 (rd none env x) = some s) (hi : int1 (rd none env i) = some (k, n))
  (hK : ((if 0 <= n then s[n.toNat]? else none).bind fun b => K (setD (some d) env (vInt .u8 b.toNat))) = some r) (hn : Next c a K r env.length next) : o.wp P a w next Q := by
 obtain ⟨b, hb, hK⟩ := Option.bind_eq_some_iff.1 hK
 refine finV hr hdst (v := .int .u8 b.toNat) ?_ hd (fun vs cs bs _ => Y1x _ _ _ _) Y1g hK hn
 simp [execOp, hop, Y5, hr.str1 hs, hr.int1 hi, Instr.index, asIntOf, run_underlying (TabOk.str hT ht), hb]
theorem Y7q {t : TypeId} {x y : Operand} {cl : Call} {mx : Bool} {k : IntKind} {n m : Int} (hop : o.op = .call cl) (hc : cl.callee = .builtin (if mx then .max else .min)) (hargs : cl.args.toList = [x, y]) (hdst : o.dst = some d) (hr : RE c env a.tmps w) (hd : d < env.length)
  (hx : int1 (rd none env x) = some (k, n)) (hy : int1 (rd none env y) = some (k, m)) (hK : K (setD (some d) env (vInt k (if mx then (if m > n then m else n) else (if m < n then m else n)))) = some r) (hn : Next c a K r env.length next) : o.wp P a w next Q := by
 have hargs' : cl.args = #[x, y] := by rw [<- Array.toArray_toList (xs := cl.args), hargs]
 refine finV hr hdst (v := .int k (if mx then (if m > n then m else n) else (if m < n then m else n))) ?_ hd (fun vs cs bs _ => Y1x _ _ _ _) Y1g hK hn
 cases mx with
 | true => simp [execOp, hop, resolve, hc, hargs', invoke, builtin, Builtin.max_, Builtin.max2, Y5, hr.int1 hx, hr.int1 hy]
 | false => simp [execOp, hop, resolve, hc, hargs', invoke, builtin, Builtin.min_, Builtin.min2, Y5, hr.int1 hx, hr.int1 hy]
theorem Yav (hT : TabOk P T) {t : TypeId} {x : Operand} {cl : Call} {s : ByteArray} (hop : o.op = .call cl) (hc : cl.callee = .builtin .len) (hargs : cl.args.toList = [x]) (htys : cl.argTypes.toList = [t]) (hdst : o.dst = some d) (hr : RE c env a.tmps w) (hd : d < env.length)
  (hx : str1 (rd none env x) = some s) (ht : T.ty t = some .str) (hK : K (setD (some d) env (vInt .i64 (s.size : Int))) = some r) (hn : Next c a K r env.length next) : o.wp P a w next Q := by
 have hargs' : cl.args = #[x] := by rw [<- Array.toArray_toList (xs := cl.args), hargs]
 have htys' : cl.argTypes = #[t] := by rw [<- Array.toArray_toList (xs := cl.argTypes), htys]
 refine finV hr hdst (v := .int .i64 (s.size : Int)) ?_ hd (fun vs cs bs _ => Y1x _ _ _ _) Y1g hK hn
 simp [execOp, hop, resolve, hc, hargs', htys', invoke, builtin, Builtin.len_, Y5, hr.str1 hx, run_underlying (TabOk.str hT ht), goInt]
theorem RE.slice {tmps : Array Value} (hr : RE c env tmps w) {ty : Option Ty} {x : Operand} {lf : Leaf} {e : TypeId} {τ : Ty} {xs : List τ.D} (h : rd ty env x = .con .val [lf]) (ha : lf.as (.slice e τ) = some xs) (hl : lf.m.live = true) : ∃ A cp, evT tmps x = .slice A xs.length cp /\ xs.length <= cp := by
 obtain ⟨vs, h0⟩ := hr
 obtain ⟨cs, bs, h1, _⟩ := h0.rel
 obtain ⟨cells, hv⟩ := Yg h0.len h1 ty x
 rw [h] at hv
 obtain ⟨S, hS⟩ := Y2g hv hl
 obtain ⟨t, y, m⟩ := lf
 unfold Leaf.as at ha
 split at ha
 ·rename_i ht
  simp only at ht
  subst ht
  simp only [Option.some.injEq] at ha
  subst ha
  obtain ⟨v, cs', b0, b1, e1, _, _, hrow⟩ := hS
  obtain ⟨A, cp, e2, hl⟩ := hrow.slice
  have : evT tmps x = v := by simpa using e1
  rw [this]
  exact ⟨A, cp, e2, hl⟩
 ·simp at ha
theorem Y8l (hT : TabOk P T) {t e : TypeId} {τ : Ty} {x : Operand} {cl : Call} {lx : Leaf} {xs : List τ.D} (hop : o.op = .call cl) (hc : cl.callee = .builtin .len) (hargs : cl.args.toList = [x]) (htys : cl.argTypes.toList = [t]) (hdst : o.dst = some d) (hr : RE c env a.tmps w) (hd : d < env.length)
  (ht : T.ty t = some (.slice e τ)) (hx : rd (some (.slice e τ)) env x = .con .val [lx]) (ha : lx.as (.slice e τ) = some xs) (hl : lx.m.live = true) (hK : K (setD (some d) env (vInt .i64 (xs.length : Int))) = some r) (hn : Next c a K r env.length next) : o.wp P a w next Q := by
 have hargs' : cl.args = #[x] := by rw [<- Array.toArray_toList (xs := cl.args), hargs]
 have htys' : cl.argTypes = #[t] := by rw [<- Array.toArray_toList (xs := cl.argTypes), htys]
 obtain ⟨A, cp, e1, _⟩ := hr.slice hx ha hl
 refine finV hr hdst (v := .int .i64 (xs.length : Int)) ?_ hd (fun vs cs bs _ => Y1x _ _ _ _) Y1g hK hn
 simp [execOp, hop, resolve, hc, hargs', htys', invoke, builtin, Builtin.len_, Y5, e1, run_underlying (TabOk.slice hT ht), goInt]
theorem Y26 (b o n : Nat) : (⟨b, o, none⟩ : Addr).add n = ⟨b, o + n, none⟩ := by unfold Addr.add; split <;> simp_all
theorem Y5m (x : Addr) (n m : Nat) : (x.add n).add m = x.add (n + m) := by
 unfold Addr.add
 by_cases h1 : n = 0 <;> by_cases h2 : m = 0 <;> simp_all
 omega
theorem Y5u (hT : TabOk P T) {s : TypeId} {f off : Nat} {τ : Ty} (h : fieldAt T s f = some (off, τ)) (x : Addr) (w : World) : (Instr.fieldAt s (.pointer (some x)) f).run P w = .ok (.pointer (some (x.add off))) w := by
 obtain ⟨fs, fd, h1, h2, rfl, h4, h5⟩ := TabOk.field hT h
 simp [Instr.fieldAt, run_underlying h1, h2, Instr.sureAddr, fieldPlace, TabOk.sizeOf hT h4, h5]
theorem Y3x (n : Nat) (ls : List Leaf) (l : Nat) : leafAt (dropLs n ls) l = leafAt ls (n + l) := by rw [Y1, Y1, Ys, List.getElem?_drop]
theorem Y3y {n : Nat} {ls : List Leaf} {l : Nat} {lf : Leaf} (h : leafAt (takeLs n ls) l = some lf) : leafAt ls l = some lf := by
 rw [Y1, Yp, List.getElem?_take] at h
 rw [Y1]
 split at h
 ·exact h
 ·simp at h
theorem Y4u (n : Nat) (ls : List Leaf) : ∀ q ∈ (dropLs n ls).flatMap Leaf.refs, q ∈ ls.flatMap Leaf.refs := by
 intro q hq
 rw [Ys] at hq
 simp only [List.mem_flatMap] at hq ⊢
 obtain ⟨l, hl, hq⟩ := hq
 exact ⟨l, List.mem_of_mem_drop hl, hq⟩
theorem Y4v (n : Nat) (ls : List Leaf) : ∀ q ∈ (takeLs n ls).flatMap Leaf.refs, q ∈ ls.flatMap Leaf.refs := by
 intro q hq
 rw [Yp] at hq
 simp only [List.mem_flatMap] at hq ⊢
 obtain ⟨l, hl, hq⟩ := hq
 exact ⟨l, List.mem_of_mem_take hl, hq⟩
theorem Y5r (hT : TabOk P T) {s : TypeId} {x : Operand} {f off r' o' : Nat} {τ : Ty} (hop : o.op = .fieldAddr s x f) (hdst : o.dst = some d) (hr : RE c env a.tmps w) (hd : d < env.length) (hf : fieldAt T s f = some (off, τ)) (hx : rd none env x = .path r' o')
  (hK : K (setD (some d) env (.path r' (o' + off))) = some r) (hn : Next c a K r env.length next) : o.wp P a w next Q := by
 obtain ⟨vs, h0⟩ := hr
 have hr : RE c env a.tmps w := ⟨vs, h0⟩
 obtain ⟨cs, bs, h1, _⟩ := h0.rel
 obtain ⟨cells, hv⟩ := Yg h0.len h1 none x
 rw [hx] at hv
 obtain ⟨e, ls, B, g1, g2, g3⟩ := hv
 refine finV hr hdst (v := .pointer (some ⟨B, o' + off, none⟩)) ?_ hd (fun vs cs bs hrel => ?_) ?_ hK hn
 ·have := Y5u hT hf ⟨B, o', none⟩ w
  simp [execOp, hop, Y5, g3, this, Y26]
 ·obtain ⟨cells, hv2⟩ := Yg h0.len hrel none x
  rw [hx] at hv2
  obtain ⟨e', ls', B', k1, k2, k3⟩ := hv2
  rw [g3] at k3
  have hB : B = B' := by simpa using k3
  subst hB
  exact ⟨[], e', ls', B, k1, k2, rfl⟩
 ·have := hr.refs none x
  rw [hx] at this
  exact this
theorem Y3c (hT : TabOk P T) {s : TypeId} {x : Operand} {f off : Nat} {τ : Ty} {ls : List Leaf} {wr : Option (Nat × Nat × List (Int × Nat) × Int × Nat)} (hop : o.op = .fieldAddr s x f) (hdst : o.dst = some d) (hr : RE c env a.tmps w) (hd : d < env.length) (hf : fieldAt T s f = some (off, τ)) (hx : rd none env x = .eptr ls wr)
  (hK : K (setD (some d) env (.eptr (dropLs off ls) (match wr with | some (r, j, p, i, q) => some (r, j, p, i, q + off) | none => none))) = some r) (hn : Next c a K r env.length next) : o.wp P a w next Q := by
 obtain ⟨vs, h0⟩ := hr
 have hr : RE c env a.tmps w := ⟨vs, h0⟩
 obtain ⟨cs, bs, h1, _⟩ := h0.rel
 obtain ⟨cells, hv⟩ := Yg h0.len h1 none x
 rw [hx] at hv
 obtain ⟨x0, g1, _, _⟩ := hv
 refine finV hr hdst (v := .pointer (some (x0.add off))) ?_ hd (fun vs cs bs hrel => ?_) ?_ hK hn
 ·have := Y5u hT hf x0 w
  simp [execOp, hop, Y5, g1, this]
 ·obtain ⟨cells, hv2⟩ := Yg h0.len hrel none x
  rw [hx] at hv2
  obtain ⟨x1, k1, k2, k3⟩ := hv2
  rw [g1] at k1
  have hx1 : x0 = x1 := by simpa using k1
  subst hx1
  refine ⟨[], x0.add off, rfl, fun l lf hl => ?_, ?_⟩
  ·rw [Y3x] at hl
   obtain ⟨m1, u, m2, m3⟩ := k2 _ _ hl
   exact ⟨m1, u, by rw [Y5m]; exact m2, m3⟩
  ·cases wr with
   | none => exact ⟨by rw [Addr.add_block]; exact k3.1, by rw [Addr.add_block]; exact k3.2⟩
   | some q =>
    obtain ⟨r', j, p, i, q⟩ := q
    obtain ⟨m1, lf, u, m2, m3⟩ := k3
    refine ⟨by rw [Addr.add_block]; exact m1, lf, u, m2, fun hp => ?_⟩
    obtain ⟨e, t, xs, m, B, n, cp, n1, n2, n3, n4, n5⟩ := m3 hp
    exact ⟨e, t, xs, m, B, n, cp, n1, n2, n3, n4, by rw [n5, Y26, Nat.add_assoc]⟩
 ·have := hr.refs none x
  rw [hx] at this
  simp only [AV.refs, AV.ptrs] at this ⊢
  refine ⟨fun q hq => ?_, by simp⟩
  simp only [List.mem_append] at hq
  rcases hq with hq | hq
  ·exact this.1 q (List.mem_append_left _ (Y4u _ _ q hq))
  ·refine this.1 q (List.mem_append_right _ ?_)
   cases wr with
   | none => simp at hq
   | some q' => obtain ⟨r', j, p, i, q'⟩ := q'; exact hq
theorem Y67 {x : Operand} {r' o' : Nat} (hop : o.op = .nilCheck x) (hdst : o.dst = some d) (hr : RE c env a.tmps w) (hd : d < env.length) (hx : rd none env x = .path r' o') (hK : K (setD (some d) env (.path r' o')) = some r) (hn : Next c a K r env.length next) : o.wp P a w next Q := by
 obtain ⟨vs, h0⟩ := hr
 have hr : RE c env a.tmps w := ⟨vs, h0⟩
 obtain ⟨cs, bs, h1, _⟩ := h0.rel
 obtain ⟨cells, hv⟩ := Yg h0.len h1 none x
 rw [hx] at hv
 obtain ⟨e, ls, B, g1, g2, g3⟩ := hv
 refine finV hr hdst (v := evT a.tmps x) ?_ hd (hx ▸ hr.val none x) (hx ▸ hr.refs none x) hK hn
 simp [execOp, hop, Y5, g3]
theorem Y6m {x : Operand} {f : FuncId} {cs : List (Nat × Nat)} (hop : o.op = .nilCheck x) (hdst : o.dst = some d) (hr : RE c env a.tmps w) (hd : d < env.length) (hx : rd none env x = .clo f cs) (hK : K (setD (some d) env (.clo f cs)) = some r) (hn : Next c a K r env.length next) : o.wp P a w next Q := by
 obtain ⟨vs, h0⟩ := hr
 have hr : RE c env a.tmps w := ⟨vs, h0⟩
 obtain ⟨cs', bs, h1, _⟩ := h0.rel
 obtain ⟨cells, hv⟩ := Yg h0.len h1 none x
 rw [hx] at hv
 obtain ⟨vs', g1, g2⟩ := hv
 refine finV hr hdst (v := evT a.tmps x) ?_ hd (hx ▸ hr.val none x) (hx ▸ hr.refs none x) hK hn
 simp [execOp, hop, Y5, g1]
theorem Y68 {x : Operand} {f : FuncId} {xs : List (Σ t : Ty, t.D)} (hop : o.op = .nilCheck x) (hdst : o.dst = some d) (hr : RE c env a.tmps w) (hd : d < env.length) (hx : rd none env x = .cloR f xs) (hK : K (setD (some d) env (.cloR f xs)) = some r) (hn : Next c a K r env.length next) : o.wp P a w next Q := by
 obtain ⟨vs, h0⟩ := hr
 have hr : RE c env a.tmps w := ⟨vs, h0⟩
 obtain ⟨cs', bs, h1, _⟩ := h0.rel
 obtain ⟨cells, hv⟩ := Yg h0.len h1 none x
 rw [hx] at hv
 obtain ⟨vs', g1, g2⟩ := hv
 refine finV hr hdst (v := evT a.tmps x) ?_ hd (hx ▸ hr.val none x) (hx ▸ hr.refs none x) hK hn
 simp [execOp, hop, Y5, g1]
theorem Y69 {x : Operand} {ls : List Leaf} {wr : Option (Nat × Nat × List (Int × Nat) × Int × Nat)} (hop : o.op = .nilCheck x) (hdst : o.dst = some d) (hr : RE c env a.tmps w) (hd : d < env.length) (hx : rd none env x = .eptr ls wr) (hK : K (setD (some d) env (.eptr ls wr)) = some r) (hn : Next c a K r env.length next) : o.wp P a w next Q := by
 obtain ⟨vs, h0⟩ := hr
 have hr : RE c env a.tmps w := ⟨vs, h0⟩
 obtain ⟨cs', bs, h1, _⟩ := h0.rel
 obtain ⟨cells, hv⟩ := Yg h0.len h1 none x
 rw [hx] at hv
 obtain ⟨a', g1, g2⟩ := hv
 refine finV hr hdst (v := evT a.tmps x) ?_ hd (hx ▸ hr.val none x) (hx ▸ hr.refs none x) hK hn
 simp [execOp, hop, Y5, g1]
end
end Go.FP

namespace Go.FP
open Go.RowKit
theorem Y1u {S : Nat -> Prop} {w : World} : ∀ (t : Ty) {cs : List Value} {x : t.D} (md : Nat -> Mode) (n : Nat), Rep S w t .ro cs x [] ->
  (leaves t x md n).length = cs.length /\ ∀ (l : Nat) (lf : Leaf) (u : Value), (leaves t x md n)[l]? = some lf -> cs[l]? = some u -> Rep S w lf.t .ro [u] lf.x [] /\ ((lf.m = .at_ .ro /\ lf.t.flatB = true) \/ lf.m = md (n + l))
 | .int k, cs, x, md, n, h => by
  obtain ⟨rfl, _⟩ := h
  refine ⟨rfl, fun l lf u hl hu => ?_⟩
  cases l with
  | zero => simp only [leaves, List.getElem?_cons_zero, Option.some.injEq] at hl hu; subst hl; subst hu; exact ⟨⟨rfl, rfl⟩, .inl ⟨rfl, rfl⟩⟩
  | succ l => simp [leaves] at hl
 | .bool, cs, x, md, n, h => by
  obtain ⟨rfl, _⟩ := h
  refine ⟨rfl, fun l lf u hl hu => ?_⟩
  cases l with
  | zero => simp only [leaves, List.getElem?_cons_zero, Option.some.injEq] at hl hu; subst hl; subst hu; exact ⟨⟨rfl, rfl⟩, .inl ⟨rfl, rfl⟩⟩
  | succ l => simp [leaves] at hl
 | .str, cs, x, md, n, h => by
  obtain ⟨rfl, _⟩ := h
  refine ⟨rfl, fun l lf u hl hu => ?_⟩
  cases l with
  | zero => simp only [leaves, List.getElem?_cons_zero, Option.some.injEq] at hl hu; subst hl; subst hu; exact ⟨⟨rfl, rfl⟩, .inl ⟨rfl, rfl⟩⟩
  | succ l => simp [leaves] at hl
 | .slice e t, cs, x, md, n, h => by
  have h0 := h
  obtain ⟨v, xs, b0, b1, rfl, _⟩ := h
  refine ⟨rfl, fun l lf u hl hu => ?_⟩
  cases l with
  | zero => simp only [leaves, List.getElem?_cons_zero, Option.some.injEq] at hl hu; subst hl; subst hu; exact ⟨h0, .inr rfl⟩
  | succ l => simp [leaves] at hl
 | .unit, cs, x, md, n, h => by
  obtain ⟨rfl, _⟩ := h
  exact ⟨rfl, fun l lf u hl hu => by simp [leaves] at hl⟩
 | .pair a b, cs, x, md, n, h => by
  obtain ⟨c1, c2, b1, b2, rfl, hb, h1, h2⟩ := h
  obtain ⟨rfl, rfl⟩ := List.append_eq_nil_iff.1 hb.symm
  obtain ⟨l1, k1⟩ := Y1u a md n h1
  obtain ⟨l2, k2⟩ := Y1u b md (n + a.sz) h2
  have hsz : c1.length = a.sz := Rep.len h1
  refine ⟨by simp [leaves, l1, l2], fun l lf u hl hu => ?_⟩
  simp only [leaves] at hl
  by_cases hlt : l < c1.length
  ·rw [List.getElem?_append_left (by omega)] at hl
   rw [List.getElem?_append_left hlt] at hu
   exact k1 l lf u hl hu
  ·rw [List.getElem?_append_right (by omega)] at hl
   rw [List.getElem?_append_right (by omega)] at hu
   have := k2 (l - c1.length) lf u (by rw [<- l1]; exact hl) hu
   refine ⟨this.1, this.2.imp id (fun h => ?_)⟩
   rw [h]
   congr 1
   omega
theorem Yu : ∀ (t : Ty) (x : t.D) (md : Nat -> Mode) (n : Nat), (leaves t x md n).map Leaf.t = flat t
 | .int k, x, md, n => rfl
 | .bool, x, md, n => rfl
 | .str, x, md, n => rfl
 | .slice e t, x, md, n => rfl
 | .unit, x, md, n => rfl
 | .pair a b, x, md, n => by simp only [leaves, List.map_append, Yu a, Yu b]; rfl
theorem Y33 {S : Nat -> Prop} {w : World} (lv : Lvl) : ∀ (t : Ty) {cs : List Value} {x : t.D} {bs : List Nat} (n : Nat), Rep S w t lv cs x bs ->
  (leaves t x (fun _ => .at_ lv) n).length = cs.length /\ (∀ lf ∈ leaves t x (fun _ => .at_ lv) n, lf.m.settled = true) /\ ∃ bds : List (List Nat), bds.length = cs.length /\ bs = bds.flatten /\
   ∀ (l : Nat) (lf : Leaf) (u : Value), (leaves t x (fun _ => .at_ lv) n)[l]? = some lf -> cs[l]? = some u -> ∃ m, lf.m = .at_ m /\ Rep S w lf.t m [u] lf.x (bds.getD l [])
 | .int k, cs, x, bs, n, h => by
  obtain ⟨rfl, rfl⟩ := h
  refine ⟨rfl, by simp [leaves, Mode.settled], [[]], rfl, rfl, fun l lf u hl hu => ?_⟩
  cases l with
  | zero => simp only [leaves, List.getElem?_cons_zero, Option.some.injEq] at hl hu; subst hl; subst hu; exact ⟨.ro, rfl, rfl, rfl⟩
  | succ l => simp [leaves] at hl
 | .bool, cs, x, bs, n, h => by
  obtain ⟨rfl, rfl⟩ := h
  refine ⟨rfl, by simp [leaves, Mode.settled], [[]], rfl, rfl, fun l lf u hl hu => ?_⟩
  cases l with
  | zero => simp only [leaves, List.getElem?_cons_zero, Option.some.injEq] at hl hu; subst hl; subst hu; exact ⟨.ro, rfl, rfl, rfl⟩
  | succ l => simp [leaves] at hl
 | .str, cs, x, bs, n, h => by
  obtain ⟨rfl, rfl⟩ := h
  refine ⟨rfl, by simp [leaves, Mode.settled], [[]], rfl, rfl, fun l lf u hl hu => ?_⟩
  cases l with
  | zero => simp only [leaves, List.getElem?_cons_zero, Option.some.injEq] at hl hu; subst hl; subst hu; exact ⟨.ro, rfl, rfl, rfl⟩
  | succ l => simp [leaves] at hl
 | .slice e t, cs, x, bs, n, h => by
  have h0 := h
  obtain ⟨v, xs, b0, b1, rfl, _⟩ := h
  refine ⟨rfl, by simp [leaves, Mode.settled], [bs], rfl, by simp, fun l lf u hl hu => ?_⟩
  cases l with
  | zero => simp only [leaves, List.getElem?_cons_zero, Option.some.injEq] at hl hu; subst hl; subst hu; exact ⟨lv, rfl, h0⟩
  | succ l => simp [leaves] at hl
 | .unit, cs, x, bs, n, h => by
  obtain ⟨rfl, rfl⟩ := h
  exact ⟨rfl, by simp [leaves], [], rfl, rfl, fun l lf u hl hu => by simp [leaves] at hl⟩
 | .pair a b, cs, x, bs, n, h => by
  obtain ⟨c1, c2, b1, b2, rfl, rfl, h1, h2⟩ := h
  obtain ⟨l1, s1, d1, e1, f1, k1⟩ := Y33 lv a n h1
  obtain ⟨l2, s2, d2, e2, f2, k2⟩ := Y33 lv b (n + a.sz) h2
  refine ⟨by simp [leaves, l1, l2], fun lf hm => ?_, d1 ++ d2, by simp [e1, e2], by rw [f1, f2, List.flatten_append], fun l lf u hl hu => ?_⟩
  ·simp only [leaves] at hm
   exact (List.mem_append.1 hm).elim (s1 lf) (s2 lf)
  ·simp only [leaves] at hl
   by_cases hlt : l < c1.length
   ·rw [List.getElem?_append_left (by omega)] at hl
    rw [List.getElem?_append_left hlt] at hu
    obtain ⟨m, hm, hh⟩ := k1 l lf u hl hu
    refine ⟨m, hm, ?_⟩
    rw [List.getD_eq_getElem?_getD, List.getElem?_append_left (by omega), <- List.getD_eq_getElem?_getD]
    exact hh
   ·rw [List.getElem?_append_right (by omega)] at hl
    rw [List.getElem?_append_right (by omega)] at hu
    obtain ⟨m, hm, hh⟩ := k2 (l - c1.length) lf u (by rw [<- l1]; exact hl) hu
    refine ⟨m, hm, ?_⟩
    rw [List.getD_eq_getElem?_getD, List.getElem?_append_right (by omega), <- List.getD_eq_getElem?_getD, e1]
    exact hh
theorem Y1n {lv : Lvl} : ∀ (t : Ty) (x : t.D) (n : Nat), ∀ lf ∈ leaves t x (fun _ => .at_ lv) n, lf.m = .at_ .ro \/ lf.m = .at_ lv
 | .int k, x, n, lf, h => by simp [leaves] at h; rw [h]; exact .inl rfl
 | .bool, x, n, lf, h => by simp [leaves] at h; rw [h]; exact .inl rfl
 | .str, x, n, lf, h => by simp [leaves] at h; rw [h]; exact .inl rfl
 | .slice e t, x, n, lf, h => by simp [leaves] at h; rw [h]; exact .inr rfl
 | .unit, x, n, lf, h => by simp [leaves] at h
 | .pair a b, x, n, lf, h => by
  simp only [leaves, List.mem_append] at h
  rcases h with h | h
  ·exact Y1n a _ _ _ h
  ·exact Y1n b _ _ _ h
theorem Y8m {c : Cx} {u : Value} {lv m : Lvl} {M : Mode} (hM : M = .at_ m) (h : M = .at_ .ro \/ M = .at_ lv) (hlv : lv.pinOk c u) : m.pinOk c u := by
 rcases h with h | h
 ·rw [h] at hM; cases hM; trivial
 ·rw [h] at hM; cases hM; exact hlv
section
variable {P : Program} {o : Oper} {a : Act} {w : World} {R : Type} {K : Env -> Option R} {r : R} {next : Act -> World -> Prop} {Q : Exit -> Act -> World -> Prop} {c : Cx} {d : Nat} {T : Tab} {env : Env}
theorem Leaf.as_eq {lf : Leaf} {t : Ty} {x : t.D} (h : lf.as t = some x) : lf = ⟨t, x, lf.m⟩ := by
 obtain ⟨t', y, m⟩ := lf
 unfold Leaf.as at h
 split at h
 ·rename_i ht
  simp only at ht
  subst ht
  simp only [Option.some.injEq] at h
  subst h
  rfl
 ·simp at h
theorem Y8n {S : Nat -> Prop} {w : World} {e : TypeId} {τ : Ty} {v : Value} {xs : List τ.D} (h : Rep S w (.slice e τ) .ro [v] xs []) {i : Nat} (hi : i < xs.length) (hsz : 0 < τ.sz) :
  ∃ A c ch, v = .slice (some A) xs.length c /\ ch.length = τ.sz /\ S A.block /\ A.block < w.heap.size /\ (∀ (l : Nat) (u : Value), ch[l]? = some u -> w.cell? ((A.add (i * τ.sz)).add l) = some u) /\ Rep S w τ .ro ch (xs.getD i τ.dflt) [] := by
 obtain ⟨v', cs, b0, b1, e1, e2, hel, hrow⟩ := h
 have e1 : v = v' := by simpa using e1
 subst e1
 obtain ⟨rfl, rfl⟩ := List.append_eq_nil_iff.1 e2.symm
 obtain ⟨_, A, cp, e3, hl, hz, hc⟩ := hrow
 obtain ⟨pre, ch, post, b0, b, b1, f1, f2, f3, f4, f5, _⟩ := hel.at_ i hi
 have hcell : ∀ (l : Nat) (u : Value), ch[l]? = some u -> ∃ a, A = some a /\ S a.block /\ w.cell? (a.add (i * τ.sz + l)) = some u := by
  intro l u hu
  have hlt := (List.getElem?_eq_some_iff.1 hu).1
  refine hc _ u ?_
  rw [f1, List.append_assoc, List.getElem?_append_right (by omega), List.getElem?_append_left (by omega), f2, show i * τ.sz + l - i * τ.sz = l by omega]
  exact hu
 obtain ⟨A0, rfl, hS, hc0⟩ := hcell 0 ch[0] (List.getElem?_eq_getElem (by omega))
 have hlt := World.block_lt_of_cell? w _ hc0
 rw [Addr.add_block] at hlt
 refine ⟨A0, cp, ch, e3, f3, hS, hlt, fun l u hu => ?_, ?_⟩
 ·obtain ⟨a', ea, _, h3⟩ := hcell l u hu
  cases ea
  rw [Y5m]
  exact h3
 ·have : xs.getD i τ.dflt = xs[i] := by rw [List.getD_eq_getElem?_getD, List.getElem?_eq_getElem hi]; rfl
  rw [this]
  have := Rep.ro_bs f5
  subst this
  exact f5
theorem Y88 {m : Mode} {i : Int} {l : Nat} : ∀ q : Nat × Nat, (∃ p, elemMode m i l = .bor q.1 q.2 p) -> ∃ p, m = .bor q.1 q.2 p := by
 rintro q ⟨p, hp⟩
 unfold elemMode at hp
 split at hp
 ·simp only [Mode.bor.injEq] at hp
  obtain ⟨rfl, rfl, _⟩ := hp
  exact ⟨_, rfl⟩
 ·simp at hp
theorem Y3z : ∀ (t : Ty) (x : t.D) (md : Nat -> Mode) (n : Nat), ∀ q ∈ (leaves t x md n).flatMap Leaf.refs, ∃ l p, md l = .bor q.1 q.2 p
 | .int k, x, md, n, q, hq => by simp [leaves, Leaf.refs] at hq
 | .bool, x, md, n, q, hq => by simp [leaves, Leaf.refs] at hq
 | .str, x, md, n, q, hq => by simp [leaves, Leaf.refs] at hq
 | .slice e t, x, md, n, q, hq => by
  simp only [leaves, List.flatMap_cons, List.flatMap_nil, List.append_nil, Leaf.refs] at hq
  split at hq
  ·rename_i r' j p hm
   simp only [List.mem_singleton] at hq
   rw [hq]
   exact ⟨n, p, hm⟩
  ·simp at hq
 | .unit, x, md, n, q, hq => by simp [leaves] at hq
 | .pair a b, x, md, n, q, hq => by
  simp only [leaves, List.flatMap_append, List.mem_append] at hq
  rcases hq with hq | hq
  ·exact Y3z a x.1 md n q hq
  ·exact Y3z b x.2 md _ q hq
theorem Y8o (hT : TabOk P T) {t : TypeId} {x i : Operand} {te : TE} {lx : Leaf} {n : Int} {xs : List te.ty.D} (hop : o.op = .indexAddr t x i) (hdst : o.dst = some d) (hr : RE c env a.tmps w) (hd : d < env.length) (ht : elemAt T t = some te)
  (hx : rd (some (.slice te.id te.ty)) env x = .con .val [lx]) (hi : int1 (rd none env i) = some (.i64, n)) (ha : lx.as (.slice te.id te.ty) = some xs) (hl : lx.m.live = true) (h0 : 0 <= n) (h1 : n < (xs.length : Int))
  (hK : K (setD (some d) env (.eptr (leaves te.ty (xs.getD n.toNat te.ty.dflt) (elemMode lx.m n) 0) (match lx.m with | .bor r j p => some (r, j, p, n, 0) | _ => none))) = some r) (hn : Next c a K r env.length next) : o.wp P a w next Q := by
 obtain ⟨hty, hund, _, hsz, hby, i0, hi0, hi1, _⟩ := TabOk.elem hT ht
 obtain ⟨k, rfl⟩ : ∃ k : Nat, n = k := ⟨n.toNat, by omega⟩
 have hk : k < xs.length := by omega
 simp only [Int.toNat_natCast] at hK
 have hlx := Leaf.as_eq ha
 -- the value, in any state of this kind
 have main : ∀ vs cs bs, Rel c (SS env noP a.tmps vs w cs bs) -> ∃ A cp, evT a.tmps x = .slice (some A) xs.length cp /\
   ∃ cells, ValC c (SS env noP a.tmps vs w cs bs) (.eptr (leaves te.ty (xs.getD k te.ty.dflt) (elemMode lx.m k) 0) (match lx.m with | .bor r j p => some (r, j, p, (k : Int), 0) | _ => none)) (.pointer (some (A.add (k * te.ty.sz)))) cells := by
  intro vs cs bs hrel
  obtain ⟨cells, hv⟩ := hr.val (some (.slice te.id te.ty)) x vs cs bs hrel
  rw [hx, hlx] at hv
  obtain ⟨⟨rfl, _⟩, _, hv3⟩ := hv
  have hlv := hv3 0 _ _ rfl rfl
  generalize hm : lx.m = m at hlv hl
  cases m with
  | dead => simp [Mode.live] at hl
  | at_ lv =>
   obtain ⟨A, cp, ch, e1, e2, e3, e4, e5, e6⟩ := Y8n (Rep.move (S' := RoS c (SS env noP a.tmps vs w cs bs)) (fun b hb _ => ⟨by simpa using hb, rfl⟩) (by simp) (Rep.ro hlv.1)) hk hsz
   obtain ⟨f1, f2⟩ := Y1u te.ty (x := xs.getD k te.ty.dflt) (elemMode (.at_ lv) k) 0 e6
   refine ⟨A, cp, e1, [], _, rfl, fun l lf hlf => ?_, by rw [Addr.add_block]; exact e3, by rw [Addr.add_block]; exact e4⟩
   rw [Y1] at hlf
   have hlt := (List.getElem?_eq_some_iff.1 hlf).1
   have hu := List.getElem?_eq_getElem (l := ch) (i := l) (by omega)
   obtain ⟨g1, g2⟩ := f2 l lf _ hlf hu
   have hm' : lf.m = .at_ .ro := g2.elim (·.1) (fun h => by rw [h]; rfl)
   refine ⟨by rw [hm']; rfl, _, e5 l _ hu, ?_⟩
   obtain ⟨t, y, m⟩ := lf
   simp only at hm'
   subst hm'
   exact g1
  | bor r' j p =>
   obtain ⟨hrep, ⟨lf', u', ho, hp⟩, _⟩ := hlv
   obtain ⟨A, cp, ch, e1, e2, e3, e4, e5, e6⟩ := Y8n hrep hk hsz
   obtain ⟨f1, f2⟩ := Y1u te.ty (x := xs.getD k te.ty.dflt) (elemMode (.bor r' j p) k) 0 e6
   have spot : p = [] -> ∃ e t xs' m B n cp, lf' = ⟨.slice e t, xs', m⟩ /\ u' = .slice (some ⟨B, 0, none⟩) n cp /\ 0 <= (k : Int) /\ (k : Int).toNat < xs'.length /\ ∀ l, (A.add (k * te.ty.sz)).add l = ⟨B, (k : Int).toNat * t.sz + l, none⟩ := fun hp0 => by
    obtain ⟨m, rfl, rfl⟩ := hp hp0
    -- the row of the place itself
    have hrow : ∃ B cp', evT a.tmps x = .slice (some ⟨B, 0, none⟩) xs.length cp' := by
     have hlr := (hrel.av r')
     obtain ⟨g1, g2, g3⟩ := ho
     cases hev : (SS env noP a.tmps vs w cs bs).env r' with
     | con kk ls =>
      rw [hev] at hlr g1
      have h4 := hlr.2.2.2 j _ _ g1 g3
      cases m with
      | bor _ _ _ => simp [Mode.own] at g2
      | dead => simp [Mode.own] at g2
      | at_ lv =>
       have hrp := h4.rep
       obtain ⟨v', cs', b0, b1, q1, _, _, q2⟩ := hrp
       have q1 : evT a.tmps x = v' := by simpa using q1
       rw [q1]
       have own : (SS env noP a.tmps vs w cs bs).w.ownsRow 0 te.id te.ty.sz v' xs.length cs' := by
        cases lv with
        | ro => simp [Mode.own] at g2
        | sh => exact q2.2
        | dp => exact q2.2
        | pn _ => exact q2.2
       rcases own.2 with ⟨_, h0⟩ | ⟨g, cap, cur, q3, _⟩
       ·omega
       ·exact ⟨g, cap, q3⟩
     | _ => rw [hev] at g1; simp [AV.leaf?] at g1
    obtain ⟨B, cp', q⟩ := hrow
    have hA : A = ⟨B, 0, none⟩ := by rw [q] at e1; simp at e1; exact e1.1.symm
    exact ⟨te.id, te.ty, xs, m, B, xs.length, cp', rfl, q, by omega, by simpa using hk, fun l => by rw [hA, Y26, Y26]; simp⟩
   refine ⟨A, cp, e1, [], _, rfl, fun l lf hlf => ?_, ⟨by rw [Addr.add_block]; exact e3, by rw [Addr.add_block]; exact e4⟩, lf', u', ho, fun hp0 => ?_⟩
   ·rw [Y1] at hlf
    have hlt := (List.getElem?_eq_some_iff.1 hlf).1
    have hu := List.getElem?_eq_getElem (l := ch) (i := l) (by omega)
    obtain ⟨g1, g2⟩ := f2 l lf _ hlf hu
    obtain ⟨t, y, m⟩ := lf
    rcases g2 with ⟨hm', hf⟩ | hm'
    ·simp only at hm' hf g1
     subst hm'
     exact ⟨rfl, _, e5 l _ hu, (Rep.flat hf g1).2⟩
    ·simp only [elemMode, Nat.zero_add] at hm' g1
     subst hm'
     refine ⟨rfl, _, e5 l _ hu, g1, ⟨lf', u', ho, fun h => by simp at h⟩, fun i o hpo => ?_⟩
     have hpo : p ++ [((k : Int), l)] = [(i, o)] := hpo
     cases p with
     | cons p0 p => simp at hpo
     | nil =>
      simp only [List.nil_append, List.cons.injEq, Prod.mk.injEq, and_true] at hpo
      obtain ⟨rfl, rfl⟩ := hpo
      obtain ⟨e, t', xs', m, B, n, cp', s1, s2, s3, s4, s5⟩ := spot rfl
      exact ⟨_, ⟨⟨by rw [Addr.add_block, Addr.add_block]; exact e3, by rw [Addr.add_block, Addr.add_block]; exact e4⟩, lf', u', ho, fun _ => ⟨e, t', xs', m, B, n, cp', s1, s2, s3, s4, s5 l⟩⟩, e5 l _ hu⟩
   ·obtain ⟨e, t', xs', m, B, n, cp', s1, s2, s3, s4, s5⟩ := spot hp0
    refine ⟨e, t', xs', m, B, n, cp', s1, s2, s3, s4, ?_⟩
    have := s5 0
    rwa [Y5m, Nat.add_zero] at this
 obtain ⟨vs, h0'⟩ := hr
 have hr : RE c env a.tmps w := ⟨vs, h0'⟩
 obtain ⟨cs, bs, hrel, _⟩ := h0'.rel
 obtain ⟨A, cp, e1, _⟩ := main vs cs bs hrel
 refine finV hr hdst (v := .pointer (some (A.add (k * te.ty.sz)))) ?_ hd (fun vs cs bs hrel => ?_) ?_ hK hn
 ·have hsize : (Go.sizeOf te.id).run P w = .ok te.ty.sz w := by simp [Go.sizeOf, typeInfo, hi0, hi1]
  simp [execOp, hop, Y5, e1, hr.int1 hi, Instr.indexAt, asIntOf, run_underlying hund, hsize, hk]
 ·obtain ⟨A', cp', e1', h⟩ := main vs cs bs hrel
  rw [e1] at e1'
  have : A = A' := by simp at e1'; exact e1'.1
  subst this
  exact h
 ·have hrf := hr.refs (some (.slice te.id te.ty)) x
  rw [hx] at hrf
  have hbor : ∀ q : Nat × Nat, (∃ p, lx.m = .bor q.1 q.2 p) -> q.1 < env.length := by
   rintro q ⟨p, hp⟩
   exact hrf.1 q (by simp only [AV.refs, List.flatMap_cons, List.flatMap_nil, List.append_nil, Leaf.refs, hp, List.mem_singleton])
  refine ⟨fun q hq => ?_, by simp [AV.ptrs]⟩
  simp only [AV.refs, List.mem_append] at hq
  rcases hq with hq | hq
  ·obtain ⟨l, p, hp⟩ := Y3z _ _ _ _ q hq
   exact hbor q (Y88 q ⟨p, hp⟩)
  ·cases hm : lx.m with
   | bor r' j p =>
    rw [hm] at hq
    simp only [List.mem_singleton] at hq
    rw [hq]
    exact hbor (r', j) ⟨p, hm⟩
   | at_ lv => rw [hm] at hq; simp at hq
   | dead => rw [hm] at hq; simp at hq
end
end Go.FP

namespace Go.FP
open Go.RowKit
def mkV (agg : Bool) (ch : List Value) : Value := if agg then .agg ch.toArray else ch.headD undef
theorem Y1o : ∀ t : Ty, (flat t).length = t.sz
 | .int _ => rfl
 | .bool => rfl
 | .str => rfl
 | .slice _ _ => rfl
 | .unit => rfl
 | .pair a b => by simp [flat, Ty.sz, Y1o a, Y1o b]
theorem Y34 {t : Ty} (h : t.isAgg = false) : t.sz = 1 := by cases t <;> first | rfl | simp [Ty.isAgg] at h
theorem Y12 {ls : List Leaf} {t : Ty} (h : typedAs ls t = true) : ls.length = t.sz := by
 have : ls.map Leaf.t = flat t := by simpa [typedAs] using h
 rw [<- Y1o, <- this, List.length_map]
theorem Y1y {c : Cx} {w : World} {agg : Bool} {ch : List Value} (h : agg = false -> ch.length = 1) : KCells c w [] (if agg then .agg else .val) (mkV agg ch) ch := by
 cases agg with
 | true => exact ⟨rfl, rfl⟩
 | false =>
  obtain ⟨u, rfl⟩ := List.length_eq_one_iff.1 (h rfl)
  exact ⟨rfl, rfl⟩
section
variable {P : Program} {o : Oper} {a : Act} {w : World} {R : Type} {K : Env -> Option R} {r : R} {next : Act -> World -> Prop} {Q : Exit -> Act -> World -> Prop} {c : Cx} {d : Nat} {T : Tab} {env : Env}
theorem Y4c (hT : TabOk P T) {t : TypeId} {τ : Ty} (ht : T.ty t = some τ) {x : Addr} {ch : List Value} (hl : ch.length = τ.sz) (hc : ∀ (j : Nat) (u : Value), ch[j]? = some u -> w.cell? (x.add j) = some u) : (Instr.loadAt t (.pointer (some x))).run P w = .ok (mkV τ.isAgg ch) w := by
 unfold Instr.loadAt loadVar
 cases hag : τ.isAgg with
 | true =>
  have := run_loadCells_list (P := P) (w := w) x ch hc
  simp [Instr.sureAddr, TabOk.agg hT ht, TabOk.sizeOf hT ht, hag, <- hl, this, mkV]
 | false =>
  have h1 := Y34 hag
  obtain ⟨u, rfl⟩ := List.length_eq_one_iff.1 (hl.trans h1)
  have := hc 0 u rfl
  simp [Instr.sureAddr, TabOk.agg hT ht, hag, load, Sem.run, mkV]
  rw [show x.add 0 = x from rfl] at this
  rw [this]
theorem Y8p (hT : TabOk P T) {t : TypeId} {τ : Ty} {x : Operand} {r' off : Nat} {e : BoxK} {ls : List Leaf} (hop : o.op = .load t x) (hdst : o.dst = some d) (hr : RE c env a.tmps w) (hd : d < env.length) (ht : T.ty t = some τ) (hx : rd none env x = .path r' off) (hb : get env r' = .con (.box e) ls)
  (hty : typedAs (takeLs τ.sz (dropLs off ls)) τ = true) (hK : K (setD (some d) env (mkCon τ.isAgg (borrowFrom r' off (takeLs τ.sz (dropLs off ls))))) = some r) (hn : Next c a K r env.length next) : o.wp P a w next Q := by
 have hlen := Y12 hty
 have hrl : r' < env.length := Yv hb
 have main : ∀ vs cs bs, Rel c (SS env noP a.tmps vs w cs bs) -> ∃ B ch, evT a.tmps x = .pointer (some ⟨B, off, none⟩) /\ ch.length = τ.sz /\ (∀ (j : Nat) (u : Value), ch[j]? = some u -> w.cell? ((⟨B, off, none⟩ : Addr).add j) = some u) /\
   ValC c (SS env noP a.tmps vs w cs bs) (mkCon τ.isAgg (borrowFrom r' off (takeLs τ.sz (dropLs off ls)))) (mkV τ.isAgg ch) ch := by
  intro vs cs bs hrel
  obtain ⟨cells, hv⟩ := hr.val none x vs cs bs hrel
  rw [hx] at hv
  obtain ⟨e', ls', B, g1, g2, g3⟩ := hv
  have hbE : (SS env noP a.tmps vs w cs bs).env r' = .con (.box e) ls := by show ovl env noP r' = _; rw [Y8 hrl]; exact hb
  have hav := hrel.av r'
  rw [hbE] at hav
  obtain ⟨⟨B', k1, k2, k3⟩, h2, h3, h4⟩ := hav
  rw [g2] at k1
  have : B = B' := by simpa using k1
  subst this
  have hcl : ((cs r').drop off).take τ.sz = ((cs r').drop off).take τ.sz := rfl
  have hll : (takeLs τ.sz (dropLs off ls)).length = (((cs r').drop off).take τ.sz).length := by
   rw [Yp, Ys, List.length_take, List.length_drop, List.length_take, List.length_drop, h2]
  refine ⟨B, ((cs r').drop off).take τ.sz, g3, by rw [<- hll]; exact hlen, fun j u hu => ?_, ?_, by rw [Y21]; exact hll, fun l lf u hl hu => ?_⟩
  ·have hj : j < τ.sz := by have := (List.getElem?_eq_some_iff.1 hu).1; simp at this; omega
   rw [List.getElem?_take, if_pos hj, List.getElem?_drop] at hu
   rw [Y26]
   unfold World.cell?
   rw [k2]
   simpa using hu
  ·exact Y1y (fun h => by rw [<- hll, hlen]; exact Y34 h)
  ·rw [Y1, Y1d] at hl
   obtain ⟨lf0, hl0, rfl⟩ := Option.map_eq_some_iff.1 hl
   have hj : l < τ.sz := by have := (List.getElem?_eq_some_iff.1 hu).1; simp at this; omega
   rw [Yp, Ys, List.getElem?_take, if_pos hj, List.getElem?_drop] at hl0
   rw [List.getElem?_take, if_pos hj, List.getElem?_drop] at hu
   have := Y5t hbE hl0 hu (h4 _ _ _ (by rw [Y1]; exact hl0) hu)
   exact LeafV.of_held this.1 this.2
 obtain ⟨vs, h0⟩ := hr
 have hr : RE c env a.tmps w := ⟨vs, h0⟩
 obtain ⟨cs, bs, hrel, hno⟩ := h0.rel
 obtain ⟨B, ch, e1, e2, e3, e4⟩ := main vs cs bs hrel
 refine finV hr hdst (v := mkV τ.isAgg ch) ?_ hd (fun vs cs bs hrel => ?_) ?_ hK hn
 ·simp [execOp, hop, Y5, e1, Y4c hT ht e2 e3]
 ·obtain ⟨B', ch', f1, f2, f3, f4⟩ := main vs cs bs hrel
  rw [e1] at f1
  have : B = B' := by simpa using f1
  subst this
  have : ch = ch' := by
   apply List.ext_getElem?
   intro j
   by_cases hj : j < τ.sz
   ·have h1 := e3 j _ (List.getElem?_eq_getElem (by omega))
    have h2 := f3 j _ (List.getElem?_eq_getElem (by omega))
    rw [h1] at h2
    rw [List.getElem?_eq_getElem (by omega), List.getElem?_eq_getElem (by omega)]
    exact h2
   ·rw [List.getElem?_eq_none (by omega), List.getElem?_eq_none (by omega)]
  subst this
  exact ⟨ch, f4⟩
 ·refine ⟨fun q hq => ?_, by simp [mkCon, AV.ptrs]⟩
  simp only [mkCon, AV.refs, List.mem_flatMap] at hq
  obtain ⟨lf, hm, hq⟩ := hq
  obtain ⟨l, hl⟩ := List.getElem?_of_mem hm
  rw [Y1d] at hl
  obtain ⟨lf0, hl0, rfl⟩ := Option.map_eq_some_iff.1 hl
  split at hq
  ·simp only [Leaf.refs, List.mem_singleton] at hq
   rw [hq]; exact hrl
  ·have := (hno r').1 q
   rw [Y8 hrl, hb] at this
   refine this ?_
   simp only [AV.refs, List.mem_flatMap]
   rw [Yp, Ys] at hl0
   exact ⟨lf0, List.mem_of_mem_drop (List.mem_of_mem_take (List.mem_of_getElem? hl0)), hq⟩
theorem Y8q (hT : TabOk P T) {t : TypeId} {τ : Ty} {x : Operand} {ls : List Leaf} {wr : Option (Nat × Nat × List (Int × Nat) × Int × Nat)} (hop : o.op = .load t x) (hdst : o.dst = some d) (hr : RE c env a.tmps w) (hd : d < env.length) (ht : T.ty t = some τ) (hx : rd none env x = .eptr ls wr)
  (hty : typedAs (takeLs τ.sz ls) τ = true) (hK : K (setD (some d) env (mkCon τ.isAgg (takeLs τ.sz ls))) = some r) (hn : Next c a K r env.length next) : o.wp P a w next Q := by
 have hlen := Y12 hty
 have main : ∀ vs cs bs, Rel c (SS env noP a.tmps vs w cs bs) -> ∃ x0, evT a.tmps x = .pointer (some x0) /\ ∀ l lf, leafAt ls l = some lf -> lf.m.own = false /\ ∃ u, w.cell? (x0.add l) = some u /\ Held c (SS env noP a.tmps vs w cs bs) u lf := by
  intro vs cs bs hrel
  obtain ⟨cells, hv⟩ := hr.val none x vs cs bs hrel
  rw [hx] at hv
  obtain ⟨x0, g1, g2, g3⟩ := hv
  exact ⟨x0, g1, g2⟩
 obtain ⟨vs, h0⟩ := hr
 have hr : RE c env a.tmps w := ⟨vs, h0⟩
 obtain ⟨cs, bs, hrel, hno⟩ := h0.rel
 obtain ⟨x0, e1, e2⟩ := main vs cs bs hrel
 have hll : τ.sz <= ls.length := by rw [Yp, List.length_take] at hlen; omega
 let ch := (List.range τ.sz).map fun l => (w.cell? (x0.add l)).getD undef
 have hch : ∀ l < τ.sz, ∃ u, ch[l]? = some u /\ w.cell? (x0.add l) = some u := by
  intro l hl
  obtain ⟨_, u, hu, _⟩ := e2 l _ (by rw [Y1]; exact List.getElem?_eq_getElem (by omega))
  exact ⟨u, by simp [ch, hl, hu], hu⟩
 have hcl : ch.length = τ.sz := by simp [ch]
 have hcc : ∀ (j : Nat) (u : Value), ch[j]? = some u -> w.cell? (x0.add j) = some u := by
  intro j u hu
  have hj := (List.getElem?_eq_some_iff.1 hu).1
  obtain ⟨u', h1, h2⟩ := hch j (by omega)
  rw [h1] at hu
  rw [h2, hu]
 refine finV hr hdst (v := mkV τ.isAgg ch) ?_ hd (fun vs cs bs hrel => ?_) ?_ hK hn
 ·simp [execOp, hop, Y5, e1, Y4c hT ht hcl hcc]
 ·obtain ⟨x1, f1, f2⟩ := main vs cs bs hrel
  rw [e1] at f1
  have : x0 = x1 := by simpa using f1
  subst this
  refine ⟨ch, Y1y (fun h => by rw [hcl]; exact Y34 h), by rw [hlen, hcl], fun l lf u hl hu => ?_⟩
  have hl' := Y3y hl
  obtain ⟨k1, u', k2, k3⟩ := f2 l lf hl'
  have := hcc l u hu
  rw [k2] at this
  have : u' = u := by simpa using this
  subst this
  exact LeafV.of_held k1 k3
 ·have := hr.refs none x
  rw [hx] at this
  exact ⟨fun q hq => this.1 q (by simp only [AV.refs, List.mem_append]; exact .inl (Y4v _ _ q hq)), by simp [mkCon, AV.ptrs]⟩
theorem Ycl (hT : TabOk P T) {t : TypeId} {τ : Ty} (ht : T.ty t = some τ) {cs : List Value} {off : Nat} (hl : off + τ.sz <= cs.length) : (part t cs.toArray off).run P w = .ok (mkV τ.isAgg ((cs.drop off).take τ.sz)) w := by
 unfold part
 cases hag : τ.isAgg with
 | true =>
  simp [TabOk.agg hT ht, TabOk.sizeOf hT ht, hag, mkV]
 | false =>
  have h1 := Y34 hag
  have : cs[off]? = some cs[off] := List.getElem?_eq_getElem (by omega)
  have h2 : (cs.drop off).take 1 = [cs[off]] := by
   rw [List.drop_eq_getElem_cons (by omega)]
   rfl
  simp [TabOk.agg hT ht, hag, mkV, this, h1, h2]
theorem Ycm (hT : TabOk P T) {s : TypeId} {x : Operand} {f off : Nat} {τ : Ty} {ls : List Leaf} (hop : o.op = .field s x f) (hdst : o.dst = some d) (hr : RE c env a.tmps w) (hd : d < env.length) (hf : fieldAt T s f = some (off, τ)) (hx : rd none env x = .con .agg ls)
  (hty : typedAs (takeLs τ.sz (dropLs off ls)) τ = true) (hK : K (setD (some d) env (mkCon τ.isAgg (takeLs τ.sz (dropLs off ls)))) = some r) (hn : Next c a K r env.length next) : o.wp P a w next Q := by
 have hlen := Y12 hty
 obtain ⟨fs, fd, h1, h2, rfl, h4, h5⟩ := TabOk.field hT hf
 have hll : fd.offset + τ.sz <= ls.length := by
  rw [Yp, Ys, List.length_take, List.length_drop] at hlen
  omega
 obtain ⟨vs, h0⟩ := hr
 have hr : RE c env a.tmps w := ⟨vs, h0⟩
 obtain ⟨cs, bs, hrel, hno⟩ := h0.rel
 obtain ⟨cells, hv⟩ := hr.val none x vs cs bs hrel
 rw [hx] at hv
 obtain ⟨⟨e1, _⟩, e2, e3⟩ := hv
 refine finV hr hdst (v := mkV τ.isAgg ((cells.drop fd.offset).take τ.sz)) ?_ hd (fun vs cs bs hrel => ?_) ?_ hK hn
 ·have hp := Ycl (w := w) hT h4 (cs := cells) (off := fd.offset) (by omega)
  simp [execOp, hop, Y5, e1, Instr.field, run_underlying h1, h2, asAgg, hp]
 ·obtain ⟨cells', hv'⟩ := hr.val none x vs cs bs hrel
  rw [hx] at hv'
  obtain ⟨⟨e1', _⟩, e2', e3'⟩ := hv'
  rw [e1] at e1'
  have : cells = cells' := by simpa using e1'
  subst this
  refine ⟨(cells.drop fd.offset).take τ.sz, Y1y (fun h => by rw [List.length_take, List.length_drop, Y34 h]; have := Y34 h; omega), by rw [hlen, List.length_take, List.length_drop]; omega, fun l lf u hl hu => ?_⟩
  have hl' := Y3y hl
  rw [Y3x] at hl'
  have hj : l < τ.sz := by have := (List.getElem?_eq_some_iff.1 hu).1; simp at this; omega
  rw [List.getElem?_take, if_pos hj, List.getElem?_drop] at hu
  exact e3' _ _ _ hl' hu
 ·have := hr.refs none x
  rw [hx] at this
  exact ⟨fun q hq => this.1 q (Y4u _ _ q (Y4v _ _ q hq)), by simp [mkCon, AV.ptrs]⟩
theorem Y6n : ∀ {sh : List (Bool × Nat)} {vs cs : List Value} {i off n : Nat} {agg : Bool}, TupCells sh vs cs -> tupOff sh i = some (off, agg, n) -> ∃ v, vs[i]? = some v /\ off + n <= cs.length /\ v = mkV agg ((cs.drop off).take n) /\ (agg = false -> n = 1)
 | [], vs, cs, i, off, n, agg, h, ho => by simp [tupOff] at ho
 | (ag, m) :: sh, vs, cs, 0, off, n, agg, ⟨v, vs', c0, cs', e1, e2, hl, hv, ht⟩, ho => by
  subst e1; subst e2
  simp only [tupOff, Option.some.injEq, Prod.mk.injEq] at ho
  obtain ⟨rfl, rfl, rfl⟩ := ho
  refine ⟨v, rfl, by simp [hl], ?_, ?_⟩
  ·rw [List.drop_zero, <- hl, List.take_left]
   cases ag with
   | true => simpa [mkV] using hv
   | false => simp only [Bool.false_eq_true, if_false] at hv; rw [hv.1]; rfl
  ·rintro rfl
   simp only [Bool.false_eq_true, if_false] at hv
   rw [<- hl, hv.1]; rfl
 | (ag, m) :: sh, vs, cs, i + 1, off, n, agg, ⟨v, vs', c0, cs', e1, e2, hl, hv, ht⟩, ho => by
  subst e1; subst e2
  simp only [tupOff] at ho
  split at ho
  ·rename_i o' q ho'
   simp only [Option.some.injEq, Prod.mk.injEq] at ho
   obtain ⟨rfl, rfl⟩ := ho
   obtain ⟨v', h1, h2, h3, h4⟩ := Y6n ht ho'
   refine ⟨v', h1, by simp [hl]; omega, ?_, h4⟩
   rw [h3, List.drop_append, List.drop_of_length_le (show c0.length <= m + o' by omega), List.nil_append, show m + o' - c0.length = o' by omega]
  ·simp at ho
theorem Y89 {s i off n : Nat} {agg : Bool} {sh : List (Bool × Nat)} {ls : List Leaf} (hop : o.op = .extract (.tmp s) i) (hdst : o.dst = some d) (hr : RE c env a.tmps w) (hd : d < env.length) (hs : get env s = .con (.tup sh) ls) (ho : tupOff sh i = some (off, agg, n))
  (hown : (takeLs n (dropLs off ls)).any (fun l => l.m.own) = false) (hK : K (setD (some d) env (mkCon agg (takeLs n (dropLs off ls)))) = some r) (hn : Next c a K r env.length next) : o.wp P a w next Q := by
 have hsl : s < env.length := Yv hs
 have main : ∀ vs cs bs, Rel c (SS env noP a.tmps vs w cs bs) -> ∃ vl, evT a.tmps (.tmp s) = .tuple vl.toArray /\ TupCells sh vl (cs s) /\ ls.length = (cs s).length /\ ∀ l lf u, leafAt ls l = some lf -> (cs s)[l]? = some u -> LeafRel c (SS env noP a.tmps vs w cs bs) s l u lf := by
  intro vs cs bs hrel
  have hav := hrel.av s
  have e1 : (SS env noP a.tmps vs w cs bs).env s = .con (.tup sh) ls := by show ovl env noP s = _; rw [Y8 hsl]; exact hs
  have e2 : (SS env noP a.tmps vs w cs bs).tm s = evT a.tmps (.tmp s) := if_pos (hr.choose_spec.len ▸ hsl)
  rw [e1, e2] at hav
  obtain ⟨⟨_, vl, h1, h2⟩, h3, _, h4⟩ := hav
  exact ⟨vl, h1, h2, h3, h4⟩
 obtain ⟨vs, h0⟩ := hr
 have hr : RE c env a.tmps w := ⟨vs, h0⟩
 obtain ⟨cs, bs, hrel, hno⟩ := h0.rel
 obtain ⟨vl, e1, e2, e3, e4⟩ := main vs cs bs hrel
 obtain ⟨v, f1, f2, f3, f4⟩ := Y6n e2 ho
 refine finV hr hdst (v := v) ?_ hd (fun vs cs bs hrel => ?_) ?_ hK hn
 ·simp [execOp, hop, Y5, e1, Instr.extract, f1]
 ·obtain ⟨vl', g1, g2, g3, g4⟩ := main vs cs bs hrel
  rw [e1] at g1
  have : vl = vl' := by simpa using g1
  subst this
  obtain ⟨v', k1, k2, k3, k4⟩ := Y6n g2 ho
  rw [f1] at k1
  have : v = v' := by simpa using k1
  subst this
  have hll : (takeLs n (dropLs off ls)).length = (((cs s).drop off).take n).length := by rw [Yp, Ys, List.length_take, List.length_drop, List.length_take, List.length_drop, g3]
  refine ⟨((cs s).drop off).take n, ?_, hll, fun l lf u hl hu => ?_⟩
  ·rw [k3]
   exact Y1y (fun h => by rw [List.length_take, List.length_drop]; have := k4 h; omega)
  ·have hl' := Y3y hl
   rw [Y3x] at hl'
   have hj : l < n := by have := (List.getElem?_eq_some_iff.1 hu).1; simp at this; omega
   rw [List.getElem?_take, if_pos hj, List.getElem?_drop] at hu
   have hrl := g4 _ _ _ hl' hu
   have hno : lf.m.own = false := by
    cases hb : lf.m.own with
    | false => rfl
    | true =>
     have : (takeLs n (dropLs off ls)).any (fun l => l.m.own) = true := List.any_eq_true.2 ⟨lf, Yc hl, hb⟩
     rw [hown] at this
     simp at this
   exact LeafV.of_held hno (hrl.held hno).2
 ·have := hno s
  rw [Y8 hsl, hs] at this
  exact ⟨fun q hq => this.1 q (Y4u _ _ q (Y4v _ _ q hq)), by simp [mkCon, AV.ptrs]⟩
theorem Y8r {tmps : Array Value} {vs : Nat -> Value} {cs : Nat -> List Value} {bs : Nat -> Nat -> List Nat} (hlen : env.length = tmps.size) (h : Rel c (SS env noP tmps vs w cs bs)) : ∀ {xs : List Operand} {ps : List (Nat × Nat)}, xs.mapM (fun x => match rd none env x with | .path r off => some (r, off) | _ => none) = some ps -> PtrRels (SS env noP tmps vs w cs bs) ps (xs.map (evT tmps))
 | [], ps, hm => by simp at hm; subst hm; rfl
 | x :: xs, ps, hm => by
  rw [List.mapM_cons] at hm
  cases hx : rd none env x with
  | path r off =>
   rw [hx] at hm
   cases hxs : xs.mapM (fun x => match rd none env x with | .path r off => some (r, off) | _ => none) with
   | none => rw [hxs] at hm; simp at hm
   | some ps' =>
    rw [hxs] at hm
    simp at hm
    subst hm
    obtain ⟨cells, hv⟩ := Yg hlen h none x
    rw [hx] at hv
    exact ⟨_, _, rfl, hv, Y8r hlen h hxs⟩
  | _ => rw [hx] at hm; simp at hm
theorem Yai (hr : RE c env a.tmps w) : ∀ {xs : List Operand} {ps : List (Nat × Nat)}, xs.mapM (fun x => match rd none env x with | .path r off => some (r, off) | _ => none) = some ps -> ∀ q ∈ ps.map (·.1), q < env.length
 | [], ps, hm => by simp at hm; subst hm; simp
 | x :: xs, ps, hm => by
  rw [List.mapM_cons] at hm
  cases hx : rd none env x with
  | path r off =>
   rw [hx] at hm
   cases hxs : xs.mapM (fun x => match rd none env x with | .path r off => some (r, off) | _ => none) with
   | none => rw [hxs] at hm; simp at hm
   | some ps' =>
    rw [hxs] at hm
    simp at hm
    subst hm
    have h1 := hr.refs none x
    rw [hx] at h1
    intro q hq
    simp only [List.map_cons, List.mem_cons] at hq
    rcases hq with rfl | hq
    ·exact h1.2 _ (by simp [AV.ptrs])
    ·exact Yai hr hxs q hq
  | _ => rw [hx] at hm; simp at hm
theorem Y9z {f : FuncId} {first captured : Array Operand} {ps : List (Nat × Nat)} (hop : o.op = .makeFunc (.func f) first captured) (hdst : o.dst = some d) (hr : RE c env a.tmps w) (hd : d < env.length) (hf : first.size = 0)
  (hc : captured.toList.mapM (fun x => match rd none env x with | .path r off => some (r, off) | _ => none) = some ps) (hK : K (setD (some d) env (.clo f ps)) = some r) (hn : Next c a K r env.length next) : o.wp P a w next Q := by
 have hf' : first = #[] := Array.eq_empty_of_size_eq_zero hf
 refine finV hr hdst (av := .clo f ps) (v := .func (.func f) #[] (captured.map (evT a.tmps))) ?_ hd (fun vs cs bs hrel => ⟨[], captured.toList.map (evT a.tmps), by rw [<- List.map_toArray, Array.toArray_toList], Y8r hr.choose_spec.len hrel hc⟩) ⟨by simp [AV.refs], fun q hq => Yai hr hc q (by simpa [AV.ptrs] using hq)⟩ hK hn
 simp [execOp, hop, Y5, hf', Instr.makeFunc]
end
end Go.FP

namespace Go.FP
open Go.RowKit
theorem Rep.dpS {S S' : Nat -> Prop} {w : World} : ∀ {t : Ty} {cs : List Value} {x : t.D} {bs : List Nat}, Rep S w t .dp cs x bs -> Rep S' w t .dp cs x bs
 | .int k, _, _, _, h => h
 | .bool, _, _, _, h => h
 | .str, _, _, _, h => h
 | .slice e t, _, _, _, ⟨v, xs, b0, b1, h1, h2, h3, h4⟩ => ⟨v, xs, b0, b1, h1, h2, El.imp (fun c x b _ h => Rep.dpS h) h3, h4⟩
 | .unit, _, _, _, h => h
 | .pair a b, _, _, _, ⟨c1, c2, b1, b2, h1, h2, h3, h4⟩ => ⟨c1, c2, b1, b2, h1, h2, Rep.dpS h3, Rep.dpS h4⟩
theorem Rel.reform {c : Cx} {s : St} (h : Rel c s) {n m : Nat} (hno : ∀ r, (∀ q ∈ (s.env r).refs, q.1 ≠ n /\ q.1 ≠ m) /\ (∀ q ∈ (s.env r).ptrs, q ≠ n /\ q ≠ m)) {w' : World} (hb : Below c.base s.w w')
  (hheap : ∀ b, b < s.w.heap.size -> (∀ l, b ∉ s.bs n l) -> w'.heap[b]? = s.w.heap[b]?) (av : AV) (v : Value) (cd : List Value) (bd : Nat -> List Nat)
  (hbd : ∀ l b, b ∈ bd l -> b < w'.heap.size /\ (s.w.heap.size <= b \/ ∃ l', b ∈ s.bs n l' \/ b ∈ s.bs m l')) (hdj : ∀ l l' b, b ∈ bd l -> b ∈ bd l' -> l = l') (hnd : ∀ l, (bd l).Nodup)
  (hav : let s' : St := ⟨upd (upd s.env m .undef) n av, upd s.tm n v, w', upd s.cs n cd, upd (upd s.bs m (fun _ => [])) n bd⟩; Keeps c s s' -> AVRel c s' n av v) :
  Rel c ⟨upd (upd s.env m .undef) n av, upd s.tm n v, w', upd s.cs n cd, upd (upd s.bs m (fun _ => [])) n bd⟩ := by
 let s' : St := ⟨upd (upd s.env m .undef) n av, upd s.tm n v, w', upd s.cs n cd, upd (upd s.bs m (fun _ => [])) n bd⟩
 have hsame : ∀ r, ¬ (r = n \/ r = m) -> s'.env r = (s.env r).chg noG /\ s'.tm r = s.tm r /\ s'.cs r = s.cs r /\ s'.bs r = s.bs r := fun r hr => by
  simp only [not_or] at hr
  refine ⟨by rw [AV.chg_no]; show upd _ _ _ r = _; rw [Y3 _ _ hr.1, Y3 _ _ hr.2], Y3 _ _ hr.1, Y3 _ _ hr.1, ?_⟩
  show upd _ _ _ r = _
  rw [Y3 _ _ hr.1, Y3 _ _ hr.2]
 have hbn : s'.bs n = bd := Y0 _ _ _
 have hbm : m ≠ n -> ∀ l, s'.bs m l = [] := fun hm l => by
  have : s'.bs m = fun _ => [] := by show upd _ _ _ m = _; rw [Y3 _ _ hm, Y0]
  rw [this]
 have hpl : ∀ r j, r ≠ n /\ r ≠ m -> SamePl s s' r j := fun r j hr => by
  have hs := hsame r (by simp only [not_or]; exact hr)
  refine ⟨fun lf u ho => ho.chg hs.1 hs.2.2.1, by rw [hs.2.2.2], fun b hb' => hheap b (h.own _ _ _ hb').2 (fun l hl => ?_)⟩
  exact hr.1 (h.disj _ _ _ _ _ hb' hl).1
 have hpt : ∀ r, r ≠ n /\ r ≠ m -> SamePtr s s' r := fun r hr => by
  have hs := hsame r (by simp only [not_or]; exact hr)
  exact SamePtr.chg hs.1 hs.2.1
 refine Rel.step (s' := s') noG h (fun r => r = n \/ r = m) (fun r _ => r ≠ n /\ r ≠ m) (fun r => r ≠ n /\ r ≠ m) hsame hb (fun b hl hD => hheap b hl (fun l => hD n l (.inl rfl)))
  (fun r l b hD hb' => ?_) (fun r l r' l' b hD hD' hb1 hb2 => ?_) (fun r l hD => ?_) (fun r _ => hno r) (fun hk => ⟨Yr hk hpl, Y15 hk hpl, fun r hL _ => hpt r hL⟩) (fun hk r hD => ?_)
 ·by_cases hr : r = n
  ·subst hr
   rw [hbn] at hb'
   obtain ⟨k1, k2⟩ := hbd l b hb'
   exact ⟨k1, k2.imp id (fun ⟨l', k3⟩ => k3.elim (fun k => ⟨r, l', .inl rfl, k⟩) (fun k => ⟨m, l', .inr rfl, k⟩))⟩
  ·have hr' : r = m := hD.resolve_left hr
   subst hr'
   rw [hbm hr] at hb'
   simp at hb'
 ·by_cases hr : r = n
  ·by_cases hr' : r' = n
   ·subst hr; subst hr'
    rw [hbn] at hb1 hb2
    exact ⟨rfl, hdj _ _ _ hb1 hb2⟩
   ·have e := hD'.resolve_left hr'
    subst e
    rw [hbm hr'] at hb2; simp at hb2
  ·have e := hD.resolve_left hr
   subst e
   rw [hbm hr] at hb1; simp at hb1
 ·by_cases hr : r = n
  ·subst hr; rw [hbn]; exact hnd l
  ·have e := hD.resolve_left hr
   subst e
   rw [hbm hr]; exact List.nodup_nil
 ·by_cases hr : r = n
  ·subst hr
   have e1 : s'.env r = av := Y0 _ _ _
   have e2 : s'.tm r = v := Y0 _ _ _
   rw [e1, e2]
   exact hav hk
  ·have e := hD.resolve_left hr
   subst e
   have e1 : s'.env r = .undef := by show upd _ _ _ r = _; rw [Y3 _ _ hr, Y0]
   rw [e1]
   exact hbm hr
theorem RP.reform {c : Cx} {env : Env} {tmps : Array Value} {w : World} {ps : Nat -> AV} {vs : Nat -> Value} (h : RP c env tmps w ps vs) {n m : Nat} (hn : env.length <= n) (hm : env.length <= m) {av : AV} {v : Value} {w' : World} (hrf : av.refs = [] /\ av.ptrs = [])
  (hx : ∀ cs bs, Rel c (SS env ps tmps vs w cs bs) -> Below c.base w w' /\ (∀ b, b < w.heap.size -> (∀ l, b ∉ bs n l) -> w'.heap[b]? = w.heap[b]?) /\ ∃ (cd : List Value) (bd : Nat -> List Nat),
   (∀ l b, b ∈ bd l -> b < w'.heap.size /\ (w.heap.size <= b \/ ∃ l', b ∈ bs n l' \/ b ∈ bs m l')) /\ (∀ l l' b, b ∈ bd l -> b ∈ bd l' -> l = l') /\ (∀ l, (bd l).Nodup) /\
   (let s' : St := ⟨upd (upd (ovl env ps) m .undef) n av, upd (ovlT tmps vs) n v, w', upd cs n cd, upd (upd bs m (fun _ => [])) n bd⟩; Keeps c (SS env ps tmps vs w cs bs) s' -> AVRel c s' n av v)) :
  RP c env tmps w' (upd (upd ps m .undef) n av) (upd vs n v) := by
 obtain ⟨hl, cs, bs, h1, h2⟩ := h
 obtain ⟨hb, hh, cd, bd, k1, k2, k3, k4⟩ := hx cs bs h1
 have hno : ∀ r, (∀ q ∈ (ovl env ps r).refs, q.1 ≠ n /\ q.1 ≠ m) /\ (∀ q ∈ (ovl env ps r).ptrs, q ≠ n /\ q ≠ m) := fun r =>
  ⟨fun q hq => by have := (h2 r).1 q hq; omega, fun q hq => by have := (h2 r).2 q hq; omega⟩
 have h3 := h1.reform hno hb hh av v cd bd k1 k2 k3 k4
 have e : upd (upd (ovl env ps) m .undef) n av = ovl env (upd (upd ps m .undef) n av) := by rw [Yf hn, Yf hm]
 refine ⟨hl, _, _, Rel.congr h3 e (Y1a (hl ▸ hn) v).symm, fun r => ?_⟩
 rw [<- e]
 simp only [upd]
 split
 ·rw [hrf.1, hrf.2]; exact ⟨by simp, by simp⟩
 ·split
  ·exact ⟨by simp [AV.refs], by simp [AV.ptrs]⟩
  ·exact h2 r
theorem Yd {k : Kind} {ls : List Leaf} (h : ∀ l ∈ ls, l.m.settled = true) : (AV.con k ls).refs = [] /\ (AV.con k ls).ptrs = [] := Settled.refs (.inr ⟨k, ls, rfl, h⟩)
theorem Yaj {c : Cx} {env : Env} {ps : Nat -> AV} {tmps : Array Value} {vs : Nat -> Value} {w : World} {cs : Nat -> List Value} {bs : Nat -> Nat -> List Nat} (h : Rel c (SS env ps tmps vs w cs bs)) {n : Nat} (hn : env.length <= n) (hp : ps n = .undef) : ∀ l, bs n l = [] := by
 have := h.av n
 have e : (SS env ps tmps vs w cs bs).env n = .undef := by show ovl env ps n = _; rw [Yo hn, hp]
 rw [e] at this
 exact this
theorem Yh {α : Type} (f : Nat -> α) (n : Nat) (x y : α) : upd (upd f n x) n y = upd f n y := by funext r; simp only [upd]; split <;> rfl
section
variable {P : Program} {o : Oper} {a : Act} {w : World} {R : Type} {K : Env -> Option R} {r : R} {next : Act -> World -> Prop} {Q : Exit -> Act -> World -> Prop} {c : Cx} {d : Nat} {T : Tab} {env : Env}
theorem Y18 : ∀ t : Ty, (zeroCells t).length = t.sz
 | .int _ => rfl
 | .bool => rfl
 | .str => rfl
 | .slice _ _ => rfl
 | .unit => rfl
 | .pair a b => by simp [zeroCells, Ty.sz, Y18 a, Y18 b]
theorem Y1k (t : Ty) : (zeroVal t).cells.toList = zeroCells t := by
 cases t <;> simp [zeroVal, Ty.isAgg, zeroCells, Value.cells, undef]
theorem Y35 (S : Nat -> Prop) (w : World) (τ : Ty) : (zeros τ).length = (zeroCells τ).length /\ (∀ lf ∈ zeros τ, lf.m.settled = true) /\
  ∀ (l : Nat) (lf : Leaf) (u : Value), (zeros τ)[l]? = some lf -> (zeroCells τ)[l]? = some u -> ∃ m, lf.m = .at_ m /\ Rep S w lf.t m [u] lf.x [] := by
 obtain ⟨h1, h2, bds, h3, h4, h5⟩ := Y33 .dp τ 0 (Rep.zero S w τ .dp)
 refine ⟨h1, h2, fun l lf u hl hu => ?_⟩
 obtain ⟨m, k1, k2⟩ := h5 l lf u hl hu
 refine ⟨m, k1, ?_⟩
 have : bds.getD l [] = [] := by
  rw [List.getD_eq_getElem?_getD]
  cases hb : bds[l]? with
  | none => rfl
  | some b =>
   have := List.flatten_eq_nil_iff.1 h4.symm b (List.mem_of_getElem? hb)
   rw [this]; rfl
 rw [this] at k2
 exact k2
theorem Y40 (w : World) (o : Obj) : (w.alloc o).heap[w.heap.size]? = some o := by
 show (w.heap.push o)[w.heap.size]? = _
 simp
theorem Yq (w : World) (o : Obj) : Below w.heap.size w (w.alloc o) := (Below.refl _ _).alloc (Nat.le_refl _) o
theorem Y1z (w : World) (o : Obj) : (w.alloc o).heap.size = w.heap.size + 1 := by show (w.heap.push o).size = _; simp
theorem RP.boxed {c : Cx} {env : Env} {tmps : Array Value} {w : World} {ps : Nat -> AV} {vs : Nat -> Value} (h : RP c env tmps w ps vs) {n : Nat} (hn : env.length <= n) {k : Kind} {ls : List Leaf} (hp : ps n = .con k ls) (hs : ∀ l ∈ ls, l.m.settled = true) (hk : k.plain = true) (e : TypeId) {cells : Array Value} (hcells : cells = (vs n).cells) :
  RP c env tmps (w.alloc (.cells cells e (0, 0))) (upd ps n (.con (.box ⟨e, false, []⟩) ls)) (upd vs n (.pointer (some ⟨w.heap.size, 0, none⟩))) := by
 have := h.reform (m := n) hn hn (av := .con (.box ⟨e, false, []⟩) ls) (v := .pointer (some ⟨w.heap.size, 0, none⟩)) (w' := w.alloc (.cells cells e (0, 0))) (Yd hs) (fun cs bs hr => ?_)
 ·rw [Yh] at this
  exact this
 ·have hav := hr.av n
  have e1 : (SS env ps tmps vs w cs bs).env n = .con k ls := by show ovl env ps n = _; rw [Yo hn, hp]
  have e2 : (SS env ps tmps vs w cs bs).tm n = vs n := if_neg (by have := h.len; omega)
  rw [e1, e2] at hav
  obtain ⟨h1, h2, h3, h4⟩ := hav
  have hcs : (cs n) = cells.toList /\ bs n 0 = [] := by
   cases k with
   | val =>
    obtain ⟨h5, h6⟩ := h1
    refine ⟨?_, h6⟩
    have h5' : cs n = [vs n] := h5
    rw [h5', hcells]
    -- one cell
    have hl1 : ls.length = 1 := by rw [h2, h5]; rfl
    have := h4 0 _ (vs n) (by rw [Y1]; exact List.getElem?_eq_getElem (by omega)) (by rw [h5]; rfl)
    have hone : (vs n).oneCell' = true := by
     generalize ls[0]'(by omega) = lf at this
     obtain ⟨t, x, m⟩ := lf
     cases m with
     | at_ lv => exact Rep.one this.rep _ (by simp)
     | bor _ _ _ => exact Held.one this.2
     | dead => exact this.2
    cases hv : vs n <;> first | rfl | (rw [hv] at hone; simp [Value.oneCell'] at hone)
   | agg =>
    obtain ⟨h5, h6⟩ := h1
    refine ⟨?_, h6⟩
    rw [hcells, h5]
    simp [Value.cells]
   | tup sh => simp [Kind.plain] at hk
   | box e => simp [Kind.plain] at hk
  refine ⟨(Yq _ _).mono hr.base, fun b hb _ => (Yq _ _).block b hb, cs n, fun l => if l = 0 then [w.heap.size] else bs n l, fun l b hb => ?_, fun l l' b hb hb' => ?_, fun l => ?_, fun hkeep => ?_⟩
  ·by_cases hl : l = 0
   ·subst hl
    simp only [if_true, List.mem_singleton] at hb
    rw [hb, Y1z]
    exact ⟨by omega, .inl (Nat.le_refl _)⟩
   ·simp only [if_neg hl] at hb
    rw [Y1z]
    exact ⟨by have : b < w.heap.size := (hr.own _ _ _ hb).2; omega, .inr ⟨l, .inl hb⟩⟩
  ·by_cases hl : l = 0 <;> by_cases hl' : l' = 0
   ·omega
   ·simp only [hl, hl', if_true, if_false, List.mem_singleton] at hb hb'
    have : b < w.heap.size := (hr.own _ _ _ hb').2
    omega
   ·simp only [hl, hl', if_true, if_false, List.mem_singleton] at hb hb'
    have : b < w.heap.size := (hr.own _ _ _ hb).2
    omega
   ·simp only [hl, hl', if_false] at hb hb'
    exact (hr.disj _ _ _ _ _ hb hb').2
  ·by_cases hl : l = 0
   ·simp [hl]
   ·simp only [hl, if_false]; exact hr.nodup _ _
  ·refine ⟨⟨w.heap.size, rfl, ?_, by simp [upd, nthB]⟩, by simp only [Y0]; exact h2, fun l hl => ?_, fun l lf u hl hu => ?_⟩
   ·simp only [Y0]
    rw [hcs.1, Array.toArray_toList]
    exact Y40 _ _
   ·simp only [Y0]
    rw [if_neg (by omega)]
    exact h3 l hl
   ·simp only [Y0] at hu
    have h5 := h4 l lf u hl hu
    obtain ⟨t, x, m⟩ := lf
    cases m with
    | at_ lv =>
     have h6 := h5.rep
     refine LeafRel.of_rep h5.pin ?_
     simp only [Y0, if_neg (show l + 1 ≠ 0 by omega)]
     exact Rep.move (fun b hb hl => hkeep b hb hl) (fun b hb => (Yq _ _).block b (hr.own _ _ _ hb).2) h6
    | bor _ _ _ => have := hs _ (Yc hl); simp [Mode.settled] at this
    | dead => have := hs _ (Yc hl); simp [Mode.settled] at this
theorem Ycn (hT : TabOk P T) {e : TypeId} {τ : Ty} (hop : o.op = .alloc e) (hdst : o.dst = some d) (hr : RE c env a.tmps w) (hd : d < env.length) (he : T.ty e = some τ) (hK : K (setD (some d) env (.con (.box ⟨e, false, []⟩) (zeros τ))) = some r) (hn : Next c a K r env.length next) : o.wp P a w next Q := by
 obtain ⟨vs, h⟩ := hr
 have h1 := h.reform (n := env.length) (m := env.length) (Nat.le_refl _) (Nat.le_refl _) (av := .con (.box ⟨e, false, []⟩) (zeros τ)) (v := .pointer (some ⟨w.heap.size, 0, none⟩)) (w' := w.alloc (.cells (zeroVal τ).cells e (0, 0))) (Yd (Y35 (fun _ => True) w τ).2.1) (fun cs bs hrel => ?_)
 ·refine fin hdst (v := .pointer (some ⟨w.heap.size, 0, none⟩)) (w' := w.alloc (.cells (zeroVal τ).cells e (0, 0))) ?_ hd rfl (by rw [Yh] at h1; exact h1) (Y0 _ _ _) hK hn
  simp [execOp, hop, Instr.alloc, TabOk.zero hT he, newVar, newRow, newObj, Sem.run]
  try rfl
 ·obtain ⟨z1, z2, z3⟩ := Y35 (RoS c ⟨upd (upd (ovl env noP) env.length .undef) env.length (.con (.box ⟨e, false, []⟩) (zeros τ)), upd (ovlT a.tmps vs) env.length (.pointer (some ⟨w.heap.size, 0, none⟩)), w.alloc (.cells (zeroVal τ).cells e (0, 0)), upd cs env.length (zeroCells τ), upd (upd bs env.length (fun _ => [])) env.length (fun l => if l = 0 then [w.heap.size] else [])⟩) (w.alloc (.cells (zeroVal τ).cells e (0, 0))) τ
  refine ⟨(Yq _ _).mono hrel.base, fun b hb _ => (Yq _ _).block b hb, zeroCells τ, fun l => if l = 0 then [w.heap.size] else [], fun l b hb => ?_, fun l l' b hb hb' => ?_, fun l => ?_, fun hkeep => ?_⟩
  ·have hb : b ∈ (if l = 0 then [w.heap.size] else []) := hb
   split at hb
   ·simp only [List.mem_singleton] at hb
    rw [hb, Y1z]
    exact ⟨by omega, .inl (Nat.le_refl _)⟩
   ·simp at hb
  ·have hb : b ∈ (if l = 0 then [w.heap.size] else []) := hb
   have hb' : b ∈ (if l' = 0 then [w.heap.size] else []) := hb'
   split at hb
   ·split at hb'
    ·omega
    ·simp at hb'
   ·simp at hb
  ·show (if l = 0 then [w.heap.size] else []).Nodup
   split
   ·simp
   ·exact List.nodup_nil
  ·refine ⟨⟨w.heap.size, rfl, ?_, by simp [upd, nthB]⟩, by simp only [Y0]; exact z1, fun l hl => ?_, fun l lf u hl hu => ?_⟩
   ·simp only [Y0]
    rw [<- Y1k, Array.toArray_toList]
    exact Y40 _ _
   ·simp only [Y0]
    rw [if_neg (by omega)]
   ·simp only [Y0] at hu
    obtain ⟨m, k1, k2⟩ := z3 l lf u (by rw [<- Y1]; exact hl) hu
    obtain ⟨t, x, m'⟩ := lf
    simp only at k1
    have hmode := Y1n (lv := .dp) τ τ.dflt 0 _ (Yc hl)
    subst k1
    refine LeafRel.of_rep (Y8m rfl hmode trivial) ?_
    simp only [Y0, if_neg (show l + 1 ≠ 0 by omega)]
    exact k2
theorem Y22 {τ : Ty} {x : Operand} {env' : Env} {ls : List Leaf} (ht : takeAs τ env x = some (env', ls)) : takeIn (some τ) env x = some (env', .con τ.kind ls) /\ typedAs ls τ = true := by
 unfold takeAs at ht
 cases hti : takeIn (some τ) env x with
 | none => rw [hti] at ht; simp at ht
 | some q =>
  obtain ⟨env1, av⟩ := q
  rw [hti] at ht
  cases av with
  | con k ls1 =>
   simp only at ht
   split at ht
   ·rename_i hc
    simp only [Option.some.injEq, Prod.mk.injEq] at ht
    obtain ⟨rfl, rfl⟩ := ht
    simp only [Bool.and_eq_true, decide_eq_true_eq] at hc
    rw [hc.2]
    exact ⟨rfl, hc.1⟩
   ·simp at ht
  | _ => simp at ht
theorem Y1i (τ : Ty) : τ.kind.plain = true := by unfold Ty.kind; split <;> rfl
theorem Ydp (hT : TabOk P T) {e : TypeId} {τ : Ty} {x : Operand} {env' : Env} {ls : List Leaf} (hop : o.op = .box e x) (hdst : o.dst = some d) (hr : RE c env a.tmps w) (hd : d < env.length) (he : T.ty e = some τ) (ht : takeAs τ env x = some (env', ls)) (hK : K (setD (some d) env' (.con (.box ⟨e, false, []⟩) ls)) = some r) (hn : Next c a K r env.length next) : o.wp P a w next Q := by
 obtain ⟨hti, hty⟩ := Y22 ht
 obtain ⟨vs, h⟩ := hr
 obtain ⟨hl, h1⟩ := Y11 h (fun r => .inl rfl) hti (Nat.le_refl _) rfl
 have hset := Yw hti
 have h2 := h1.boxed (n := env.length) (by omega) (Y0 _ _ _) hset (Y1i τ) e (cells := (evT a.tmps x).cells) (by rw [Y0])
 rw [Yh] at h2
 rw [<- hl] at h2
 refine fin hdst (v := .pointer (some ⟨w.heap.size, 0, none⟩)) (w' := w.alloc (.cells (evT a.tmps x).cells e (0, 0))) ?_ (by rw [hl]; exact hd) hl h2 (Y0 _ _ _) hK hn
 simp [execOp, hop, Y5, Instr.box, newVar, newRow, newObj, Sem.run]
 try rfl
end
end Go.FP

namespace Go.FP
open Go.RowKit
def RVRel (S : Nat -> Prop) (w : World) : RV -> Value -> Prop
 | .val t x, v => ∃ ch, v = mkV t.isAgg ch /\ Rep S w t .ro ch x []
 | .ptr t x, v => PtrV S w t x v
 | .clo f caps, v => ∃ vs, v = .func (.func f) #[] vs.toArray /\ PtrVs S w caps vs
 | .fptr _ _, _ => False
def RVRels (S : Nat -> Prop) (w : World) : List RV -> List Value -> Prop
 | [], vs => vs = []
 | x :: xs, vs => ∃ v vs', vs = v :: vs' /\ RVRel S w x v /\ RVRels S w xs vs'
def ResRel (S : Nat -> Prop) (base : Nat) (w : World) (B : List Nat) : List (Ty × Lvl) -> List (Σ t : Ty, t.D) -> List (List Value) -> List Nat -> Prop
 | [], xs, chs, bs => xs = [] /\ chs = [] /\ bs = []
 | p :: ps, xs, chs, bs => ∃ (x : p.1.D) (xs' : List (Σ t : Ty, t.D)) (ch : List Value) (chs' : List (List Value)) (b b' : List Nat), xs = ⟨p.1, x⟩ :: xs' /\ chs = ch :: chs' /\ bs = b ++ b' /\
   Rep (fun k => (S k \/ base <= k) /\ k ∉ B) w p.1 p.2.res ch x b /\ ResRel S base w B ps xs' chs' b'
def resVals : List (Ty × Lvl) -> List (List Value) -> List Value
 | p :: ps, ch :: chs => mkV p.1.isAgg ch :: resVals ps chs
 | _, _ => []
def resVal (rs : List (Ty × Lvl)) (chs : List (List Value)) : Value := match resVals rs chs with
 | [v] => v
 | vs => .tuple vs.toArray
def FnSpec (P : Program) (f : FuncId) (rs : List (Ty × Lvl)) (args : List RV) (res : List (Σ t : Ty, t.D)) : Prop :=
 ∀ (S : Nat -> Prop) (w : World) (vals : List Value), RVRels S w args vals -> Calls P f vals.toArray w (fun e w' => ∃ chs bs, e = .returned (resVal rs chs) /\ Below w.heap.size w w' /\ ResRel S w.heap.size w' bs rs res chs bs /\ bs.Nodup /\ ∀ b ∈ bs, w.heap.size <= b)
def RCapRel (S : Nat -> Prop) (w : World) (pb v : Value) : RCap -> Value -> Prop
 | .ro x, u => PtrV S w x.1 x.2 u
 | .pin, u => u = pb
 | .self, u => u = v
def RCapRels (S : Nat -> Prop) (w : World) (pb v : Value) : List RCap -> List Value -> Prop
 | [], vs => vs = []
 | c :: cs, vs => ∃ u vs', vs = u :: vs' /\ RCapRel S w pb v c u /\ RCapRels S w pb v cs vs'
def RVRelX (S : Nat -> Prop) (w : World) (pb : Value) : RV -> Value -> Prop
 | .fptr f caps, v => ∃ B us, v = .pointer (some ⟨B, 0, none⟩) /\ S B /\ B < w.heap.size /\ w.cell? ⟨B, 0, none⟩ = some (.func (.func f) #[] us.toArray) /\ RCapRels S w pb v caps us
 | rv, v => RVRel S w rv v
def RVRelsY (S : Nat -> Prop) (w : World) (pb : Value) : List RV -> List Value -> Prop
 | [], vs => vs = []
 | x :: xs, vs => ∃ v vs', vs = v :: vs' /\ RVRelX S w pb x v /\ RVRelsY S w pb xs vs'
def RVRelsX (S : Nat -> Prop) (w : World) (pb : Value) : Nat -> List RV -> List Value -> Prop
 | _, [], vs => vs = []
 | 0, _ :: xs, vs => ∃ v vs', vs = v :: vs' /\ RVRelsY S w pb xs vs'
 | k + 1, x :: xs, vs => ∃ v vs', vs = v :: vs' /\ RVRelX S w pb x v /\ RVRelsX S w pb k xs vs'
def LvsRel (S : Nat -> Prop) (w : World) (p : Nat -> Prop) (ls : List Leaf) (ch : List Value) (bds : List (List Nat)) : Prop :=
 ls.length = ch.length /\ bds.length = ch.length /\ ∀ (l : Nat) (lf : Leaf) (u : Value), p l -> ls[l]? = some lf -> ch[l]? = some u -> ∃ m, lf.m = .at_ m /\ Rep S w lf.t m [u] lf.x (bds.getD l [])
def BoxSig.free (b : BoxSig) (l : Nat) : Prop := (slotAt b.lv l).isFx = false
def FnSpecBox (P : Program) (f : FuncId) (rs : List (Ty × Lvl)) (b : BoxSig) (t : Ty) (x : t.D) (args : List RV) (y : t.D) (res : List (Σ t : Ty, t.D)) : Prop :=
 ∀ (S : Nat -> Prop) (w : World) (vals : List Value) (B : Nat) (ch : List Value) (bds : List (List Nat)) (base : Nat),
  vals[b.k]? = some (.pointer (some ⟨B, 0, none⟩)) -> w.heap[B]? = some (.cells ch.toArray b.id (0, 0)) -> LvsRel S w (fun _ => True) (leaves t x b.md 0) ch bds -> (B :: bds.flatten).Nodup -> (∀ k ∈ B :: bds.flatten, base <= k) -> base <= w.heap.size ->
  RVRelsX S w (.pointer (some ⟨B, 0, none⟩)) b.k args vals -> (∀ k, S k -> k ∉ B :: bds.flatten) ->
  Calls P f vals.toArray w (fun e w' => ∃ ch' bds' chs bs, e = .returned (resVal rs chs) /\ Below base w w' /\ (∀ k, k < w.heap.size -> k ∉ B :: bds.flatten -> w'.heap[k]? = w.heap[k]?) /\ w'.heap[B]? = some (.cells ch'.toArray b.id (0, 0)) /\ ch'.length = ch.length /\ (∀ l, (slotAt b.lv l).isFx = true -> ch'[l]? = ch[l]?) /\
   LvsRel (fun k => (S k \/ k ∈ bds.flatten \/ w.heap.size <= k) /\ k ∉ B :: (bds'.flatten ++ bs)) w' b.free (leaves t y b.md 0) ch' bds' /\ (∀ l, (slotAt b.lv l).isFx = true -> bds'.getD l [] = []) /\ (B :: (bds'.flatten ++ bs)).Nodup /\ (∀ k ∈ bds'.flatten ++ bs, k ∈ bds.flatten \/ w.heap.size <= k) /\
   ResRel (fun k => S k \/ k ∈ B :: bds.flatten) w.heap.size w' (B :: (bds'.flatten ++ bs)) rs res chs bs)
def FnSpecMut (P : Program) (f : FuncId) (rs : List (Ty × Lvl)) (t : Ty) (x : t.D) (args : List RV) (y : t.D) (res : List (Σ t : Ty, t.D)) : Prop :=
 ∀ (S : Nat -> Prop) (w : World) (ch : List Value) (vals : List Value) (b0 : List Nat) (base : Nat), Rep (fun _ => False) w t .dp ch x b0 -> b0.Nodup -> (∀ b ∈ b0, base <= b) -> base <= w.heap.size -> RVRels S w args vals -> (∀ b, S b -> b ∉ b0) ->
  Calls P f (mkV t.isAgg ch :: vals).toArray w (fun e w' => ∃ chs bs b1, e = .returned (resVal rs chs) /\ Below base w w' /\ (∀ b, b < w.heap.size -> b ∉ b0 -> w'.heap[b]? = w.heap[b]?) /\ Rep (fun _ => False) w' t .dp ch y b1 /\ b1.Nodup /\ (∀ b ∈ b1, b ∈ b0 \/ w.heap.size <= b) /\ ResRel S w.heap.size w' bs rs res chs bs)
def FnSpecOwn (P : Program) (f : FuncId) (t : Ty) (x : t.D) (args : List RV) (y : t.D) : Prop :=
 ∀ (S : Nat -> Prop) (w : World) (v : Value) (vals : List Value) (b0 : List Nat) (base : Nat), Rep (fun _ => False) w t .dp [v] x b0 -> b0.Nodup -> (∀ b ∈ b0, base <= b) -> base <= w.heap.size -> RVRels S w args vals -> (∀ b, S b -> b ∉ b0) ->
  Calls P f (v :: vals).toArray w (fun e w' => ∃ v' b1, e = .returned v' /\ Below base w w' /\ (∀ b, b < w.heap.size -> b ∉ b0 -> w'.heap[b]? = w.heap[b]?) /\ Rep (fun _ => False) w' t .dp [v'] y b1 /\ b1.Nodup /\ (∀ b ∈ b1, b ∈ b0 \/ w.heap.size <= b))
def FnSpecSh (P : Program) (f : FuncId) (t : Ty) (x : t.D) : Prop :=
 ∀ (S : Nat -> Prop) (w : World) (v : Value), Rep S w t .ro [v] x [] -> Calls P f #[v] w (fun e w' => ∃ v' b1, e = .returned v' /\ Below w.heap.size w w' /\ Rep S w' t .sh [v'] x b1 /\ b1.Nodup /\ ∀ b ∈ b1, w.heap.size <= b)
def FnSpecNew (P : Program) (f : FuncId) (id : TypeId) (t : Ty) (args : List RV) (y : t.D) : Prop :=
 ∀ (S : Nat -> Prop) (w : World) (vals : List Value), RVRels S w args vals -> Calls P f vals.toArray w (fun e w' => ∃ B ch, e = .returned (.pointer (some ⟨B, 0, none⟩)) /\ Below w.heap.size w w' /\ w.heap.size <= B /\ w'.heap[B]? = some (.cells ch.toArray id (0, 0)) /\ Rep (fun k => (S k \/ w.heap.size <= k) /\ k ≠ B) w' t .ro ch y [])
def Enterable (P : Program) (f : FuncId) : Prop := ∃ fn, P.funcs[f]? = some fn /\ fn.body.isNone = false /\ (fn.name == "runtime.NumGoroutine") = false
def OrcOk (P : Program) (sig : FuncId -> Option Sig) (orc : Orc) : Prop :=
 ∀ f sg args q x, sig f = some sg -> orc f args = some q -> q.run = some x -> Enterable P f /\
  (match sg.box with
   | some b => ∃ t x0 y ys, nthL args b.k = some (.ptr t x0) /\ q.pk x = ⟨t, y⟩ :: ys /\ FnSpecBox P f sg.results b t x0 args y ys
   | none => match sg.newb with
   | some id => ∃ t y, q.pk x = [⟨t, y⟩] /\ FnSpecNew P f id t args y
   | none => match sg.muts with
   | false => if sg.own then ∃ t x0, args = [.val t x0] /\ q.pk x = [⟨t, x0⟩] /\ FnSpecSh P f t x0 else FnSpec P f sg.results args (q.pk x)
   | true => if sg.own then ∃ t x0 rest y, args = .val t x0 :: rest /\ q.pk x = [⟨t, y⟩] /\ FnSpecOwn P f t x0 rest y else ∃ t x0 rest y ys, args = .val t x0 :: rest /\ q.pk x = ⟨t, y⟩ :: ys /\ FnSpecMut P f sg.results t x0 rest y ys)
theorem Y3m {S : Nat -> Prop} {w : World} : ∀ (t : Ty) {ls : List Leaf} {x : t.D} {rest : List Leaf} {cells : List Value}, asm t ls = some (x, rest) -> ls.length = cells.length ->
  (∀ (l : Nat) (lf : Leaf) (u : Value), ls[l]? = some lf -> cells[l]? = some u -> Rep S w lf.t .ro [u] lf.x []) -> ∃ c0 c1, cells = c0 ++ c1 /\ rest.length = c1.length /\ Rep S w t .ro c0 x [] /\ (∀ (l : Nat) (lf : Leaf) (u : Value), rest[l]? = some lf -> c1[l]? = some u -> Rep S w lf.t .ro [u] lf.x []) /\ (∀ l ∈ rest, l ∈ ls)
 | .unit, ls, x, rest, cells, h, hl, hr => by
  simp only [asm, Option.some.injEq, Prod.mk.injEq] at h
  obtain ⟨_, rfl⟩ := h
  exact ⟨[], cells, rfl, hl, ⟨rfl, rfl⟩, hr, fun l h => h⟩
 | .pair a b, ls, x, rest, cells, h, hl, hr => by
  simp only [asm] at h
  cases ha : asm a ls with
  | none => rw [ha] at h; simp at h
  | some q =>
   obtain ⟨xa, ra⟩ := q
   rw [ha] at h
   simp only at h
   cases hb : asm b ra with
   | none => rw [hb] at h; simp at h
   | some q =>
    obtain ⟨xb, rb⟩ := q
    rw [hb] at h
    simp only [Option.some.injEq, Prod.mk.injEq] at h
    obtain ⟨rfl, rfl⟩ := h
    obtain ⟨c0, c1, rfl, l1, k1, m1, n1⟩ := Y3m a ha hl hr
    obtain ⟨c2, c3, rfl, l2, k2, m2, n2⟩ := Y3m b hb l1 m1
    exact ⟨c0 ++ c2, c3, by rw [List.append_assoc], l2, ⟨c0, c2, [], [], rfl, rfl, k1, k2⟩, m2, fun l h => n1 l (n2 l h)⟩
 | .int k, ls, x, rest, cells, h, hl, hr => by
  cases ls with
  | nil => simp [asm] at h
  | cons l ls =>
   simp only [asm] at h
   cases hx : l.as (.int k) with
   | none => rw [hx] at h; simp at h
   | some y =>
    rw [hx] at h
    simp only [Option.some.injEq, Prod.mk.injEq] at h
    obtain ⟨rfl, rfl⟩ := h
    cases cells with
    | nil => simp at hl
    | cons u cells =>
     have := hr 0 l u rfl rfl
     rw [Leaf.as_eq hx] at this
     exact ⟨[u], cells, rfl, by simpa using hl, this, fun l' lf u' h1 h2 => hr (l' + 1) lf u' h1 h2, fun l' h => List.mem_cons_of_mem _ h⟩
 | .bool, ls, x, rest, cells, h, hl, hr => by
  cases ls with
  | nil => simp [asm] at h
  | cons l ls =>
   simp only [asm] at h
   cases hx : l.as .bool with
   | none => rw [hx] at h; simp at h
   | some y =>
    rw [hx] at h
    simp only [Option.some.injEq, Prod.mk.injEq] at h
    obtain ⟨rfl, rfl⟩ := h
    cases cells with
    | nil => simp at hl
    | cons u cells =>
     have := hr 0 l u rfl rfl
     rw [Leaf.as_eq hx] at this
     exact ⟨[u], cells, rfl, by simpa using hl, this, fun l' lf u' h1 h2 => hr (l' + 1) lf u' h1 h2, fun l' h => List.mem_cons_of_mem _ h⟩
 | .str, ls, x, rest, cells, h, hl, hr => by
  cases ls with
  | nil => simp [asm] at h
  | cons l ls =>
   simp only [asm] at h
   cases hx : l.as .str with
   | none => rw [hx] at h; simp at h
   | some y =>
    rw [hx] at h
    simp only [Option.some.injEq, Prod.mk.injEq] at h
    obtain ⟨rfl, rfl⟩ := h
    cases cells with
    | nil => simp at hl
    | cons u cells =>
     have := hr 0 l u rfl rfl
     rw [Leaf.as_eq hx] at this
     exact ⟨[u], cells, rfl, by simpa using hl, this, fun l' lf u' h1 h2 => hr (l' + 1) lf u' h1 h2, fun l' h => List.mem_cons_of_mem _ h⟩
 | .slice e t, ls, x, rest, cells, h, hl, hr => by
  cases ls with
  | nil => simp [asm] at h
  | cons l ls =>
   simp only [asm] at h
   cases hx : l.as (.slice e t) with
   | none => rw [hx] at h; simp at h
   | some y =>
    rw [hx] at h
    simp only [Option.some.injEq, Prod.mk.injEq] at h
    obtain ⟨rfl, rfl⟩ := h
    cases cells with
    | nil => simp at hl
    | cons u cells =>
     have := hr 0 l u rfl rfl
     rw [Leaf.as_eq hx] at this
     exact ⟨[u], cells, rfl, by simpa using hl, this, fun l' lf u' h1 h2 => hr (l' + 1) lf u' h1 h2, fun l' h => List.mem_cons_of_mem _ h⟩
theorem Held.rep {c : Cx} {s : St} {u : Value} {lf : Leaf} {S : Nat -> Prop} (h : Held c s u lf) (hl : lf.m.live = true) (h1 : ∀ b, RoS c s b -> S b) (h2 : ∀ q ∈ lf.refs, ∀ b ∈ s.bs q.1 (q.2 + 1), S b) : Rep S s.w lf.t .ro [u] lf.x [] := by
 obtain ⟨t, x, m⟩ := lf
 cases m with
 | at_ lv => exact Rep.move (fun b hb _ => ⟨h1 b hb, rfl⟩) (by simp) h
 | bor r j p => exact Rep.move (fun b hb _ => ⟨hb.elim (h1 b) (h2 (r, j) (by simp [Leaf.refs]) b), rfl⟩) (by simp) h.1
 | dead => simp [Mode.live] at hl
theorem LeafV.rep {c : Cx} {s : St} {u : Value} {lf : Leaf} {S : Nat -> Prop} (h : LeafV c s u lf) (hl : lf.m.live = true) (h1 : ∀ b, RoS c s b -> S b) (h2 : ∀ q ∈ lf.refs, ∀ b ∈ s.bs q.1 (q.2 + 1), S b) : Rep S s.w lf.t .ro [u] lf.x [] := by
 obtain ⟨t, x, m⟩ := lf
 cases m with
 | at_ lv => exact Rep.move (S := fun b => RoS c s b \/ b ∈ []) (fun b hb _ => ⟨hb.elim (h1 b) (by simp), rfl⟩) (by simp) (Rep.ro h.1)
 | bor r j p => exact Held.rep (lf := ⟨t, x, .bor r j p⟩) h hl h1 h2
 | dead => simp [Mode.live] at hl
section
variable {c : Cx} {env : Env} {tmps : Array Value} {w : World} {ps : Nat -> AV} {vs : Nat -> Value} {cs : Nat -> List Value} {bs : Nat -> Nat -> List Nat} {caps : FuncId -> List Ty} {S : Nat -> Prop}
theorem Y4w (h : Rel c (SS env ps tmps vs w cs bs)) {t : Ty} {r off : Nat} {x : t.D} {v : Value} (ho : ptrOf env t r off = some x) (hp : PtrRel (SS env ps tmps vs w cs bs) r off v) (h1 : ∀ b, RoS c (SS env ps tmps vs w cs bs) b -> S b) (h2 : ∀ l, ∀ b ∈ bs r l, S b) : PtrV S w t x v := by
 unfold ptrOf at ho
 split at ho
 ·rename_i e ls hb
  have hrl : r < env.length := Yv hb
  split at ho
  ·rename_i x' hasm
   split at ho
   ·rename_i hlive
    simp only [Option.some.injEq] at ho
    subst ho
    obtain ⟨e', ls', B, g1, g2, g3⟩ := hp
    have hbE : (SS env ps tmps vs w cs bs).env r = .con (.box e) ls := by show ovl env ps r = _; rw [Y8 hrl]; exact hb
    have hav := h.av r
    rw [hbE] at hav
    obtain ⟨⟨B', k1, k2, k3⟩, h3, h4, h5⟩ := hav
    rw [g2] at k1
    have : B = B' := by simpa using k1
    subst this
    obtain ⟨c0, c1, e0, e1, e2, _⟩ := Y3m (S := S) (w := w) t hasm h3 (fun l lf u hl hu => by
     have h6 := h5 l lf u (by rw [Y1]; exact hl) hu
     have hlv : lf.m.settled = true := by simpa using List.all_eq_true.1 hlive lf (List.mem_of_getElem? hl)
     by_cases ho : lf.m.own = true
     ·obtain ⟨t, x, m⟩ := lf
      cases m with
      | at_ lv => exact Rep.move (S := fun b => RoS c (SS env ps tmps vs w cs bs) b \/ b ∈ bs r (l + 1)) (fun b hb _ => ⟨hb.elim (h1 b) (h2 _ b), rfl⟩) (by simp) (Rep.ro h6.rep)
      | bor _ _ _ => simp [Mode.own] at ho
      | dead => simp [Mode.own] at ho
     ·have := h6.held (by simpa using ho)
      obtain ⟨t, x, m⟩ := lf
      cases m with
      | at_ lv => exact Rep.move (fun b hb _ => ⟨h1 b hb, rfl⟩) (by simp) this.2
      | bor r' j' p => simp [Mode.settled] at hlv
      | dead => simp [Mode.settled] at hlv)
    have hc1 : c1 = [] := List.length_eq_zero_iff.1 (by rw [<- e1]; rfl)
    subst hc1
    rw [List.append_nil] at e0
    subst e0
    refine ⟨⟨B, 0, none⟩, cs r, g3, h2 0 B (by rw [show bs r 0 = [B] from k3.1]; simp), (Array.getElem?_eq_some_iff.1 k2).1, fun j u hu => ?_, e2⟩
    rw [Y26]
    unfold World.cell?
    rw [show w.heap[B]? = _ from k2]
    simpa using hu
   ·simp at ho
  ·simp at ho
 ·simp at ho
theorem Y6o (h : Rel c (SS env ps tmps vs w cs bs)) (h1 : ∀ b, RoS c (SS env ps tmps vs w cs bs) b -> S b) : ∀ {qs : List (Nat × Nat)} {ts : List Ty} {xs : List (Σ t : Ty, t.D)} {us : List Value}, capsOf env qs ts = some xs -> PtrRels (SS env ps tmps vs w cs bs) qs us -> (∀ q ∈ qs.map (·.1), ∀ l, ∀ b ∈ bs q l, S b) -> PtrVs S w xs us
 | [], [], xs, us, ho, hp, h2 => by simp only [capsOf, Option.some.injEq] at ho; subst ho; exact hp
 | [], t :: ts, xs, us, ho, hp, h2 => by simp [capsOf] at ho
 | q :: qs, [], xs, us, ho, hp, h2 => by simp [capsOf] at ho
 | (r, off) :: qs, t :: ts, xs, us, ho, ⟨v, vs', e, hp1, hp2⟩, h2 => by
  simp only [capsOf] at ho
  cases hx : ptrOf env t r off with
  | none => rw [hx] at ho; simp at ho
  | some x =>
   rw [hx] at ho
   cases hxs : capsOf env qs ts with
   | none => rw [hxs] at ho; simp at ho
   | some xs' =>
    rw [hxs] at ho
    simp only [Option.some.injEq] at ho
    subst ho
    exact ⟨v, vs', e, Y4w h hx hp1 h1 (h2 r (by simp)), Y6o h h1 hxs hp2 (fun q hq => h2 q (by simp at hq ⊢; exact .inr hq))⟩
theorem Y8s (h : Rel c (SS env ps tmps vs w cs bs)) {p : PTy} {av : AV} {v : Value} {cells : List Value} {rv : RV} (hv : ValC c (SS env ps tmps vs w cs bs) av v cells) (ho : RVof caps env p av = some rv) (h1 : ∀ b, RoS c (SS env ps tmps vs w cs bs) b -> S b) (h2 : ∀ q ∈ av.refs, ∀ b ∈ bs q.1 (q.2 + 1), S b) (h3 : ∀ q ∈ av.ptrs, ∀ l, ∀ b ∈ bs q l, S b) : RVRel S w rv v := by
 unfold RVof at ho
 split at ho
 ·rename_i t k ls
  split at ho
  ·rename_i hc
   simp only [Bool.and_eq_true, decide_eq_true_eq] at hc
   obtain ⟨rfl, hlive⟩ := hc
   split at ho
   ·rename_i x hasm
    simp only [Option.some.injEq] at ho
    subst ho
    obtain ⟨g1, g2, g3⟩ := hv
    obtain ⟨c0, c1, e0, e1, e2, _⟩ := Y3m (S := S) (w := w) t hasm g2 (fun l lf u hl hu => by
     have h6 := g3 l lf u (by rw [Y1]; exact hl) hu
     have hlv : lf.m.live = true := by simpa using List.all_eq_true.1 hlive lf (List.mem_of_getElem? hl)
     exact h6.rep hlv h1 (fun q hq => h2 q (by simp only [AV.refs, List.mem_flatMap]; exact ⟨lf, List.mem_of_getElem? hl, hq⟩)))
    have hc1 : c1 = [] := List.length_eq_zero_iff.1 (by rw [<- e1]; rfl)
    subst hc1
    rw [List.append_nil] at e0
    subst e0
    refine ⟨cells, ?_, e2⟩
    unfold Ty.kind at g1
    cases hag : t.isAgg with
    | true => rw [hag] at g1; simpa [mkV] using g1.1
    | false =>
     rw [hag] at g1
     simp only [Bool.false_eq_true, if_false] at g1
     rw [g1.1]
     rfl
   ·simp at ho
  ·simp at ho
 ·rename_i t r off
  split at ho
  ·rename_i x hx
   simp only [Option.some.injEq] at ho
   subst ho
   exact Y4w h hx hv h1 (h3 r (by simp [AV.ptrs]))
  ·simp at ho
 ·rename_i t ls
  split at ho
  ·rename_i hlive
   split at ho
   ·rename_i x hasm
    simp only [Option.some.injEq] at ho
    subst ho
    obtain ⟨a, rfl, g2, g3⟩ := hv
    let ch : List Value := (List.range ls.length).map fun l => (w.cell? (a.add l)).getD undef
    have hch : ∀ (l : Nat) (u : Value), ch[l]? = some u -> l < ls.length /\ w.cell? (a.add l) = some u := by
     intro l u hu
     simp only [ch, List.getElem?_map, Option.map_eq_some_iff] at hu
     obtain ⟨l', hl', rfl⟩ := hu
     have hll : l < ls.length := by simpa using (List.getElem?_eq_some_iff.1 hl').1
     have : l' = l := by rw [List.getElem?_range hll] at hl'; exact (Option.some.inj hl').symm
     subst this
     obtain ⟨_, u', hu', _⟩ := g2 l' ls[l'] (by rw [Y1]; exact List.getElem?_eq_getElem hll)
     exact ⟨hll, by rw [hu']; rfl⟩
    obtain ⟨c0, c1, e0, e1, e2, _⟩ := Y3m (S := S) (w := w) (cells := ch) t hasm (by simp [ch]) (fun l lf u hl hu => by
     obtain ⟨k1, u', k2, k3⟩ := g2 l lf (by rw [Y1]; exact hl)
     obtain ⟨_, k4⟩ := hch l u hu
     have k2 : w.cell? (a.add l) = some u' := k2
     rw [k4] at k2
     have : u = u' := Option.some.inj k2
     subst this
     have hlv : lf.m.live = true := by simpa using List.all_eq_true.1 hlive lf (List.mem_of_getElem? hl)
     exact k3.rep hlv h1 (fun q hq => h2 q (by simp only [AV.refs, List.append_nil, List.mem_flatMap]; exact ⟨lf, List.mem_of_getElem? hl, hq⟩)))
    have hc1 : c1 = [] := List.length_eq_zero_iff.1 (by rw [<- e1]; rfl)
    subst hc1
    rw [List.append_nil] at e0
    exact ⟨a, ch, rfl, h1 _ g3.1, g3.2, fun j u hu => (hch j u hu).2, by rw [e0]; exact e2⟩
   ·simp at ho
  ·simp at ho
 ·rename_i f xs
  simp only [Option.some.injEq] at ho
  subst ho
  obtain ⟨us, e, hp⟩ := hv
  exact ⟨us, e, hp.move (fun b hb _ => ⟨h1 b hb, rfl⟩)⟩
 ·rename_i f qs
  split at ho
  ·rename_i xs hx
   simp only [Option.some.injEq] at ho
   subst ho
   obtain ⟨us, e, hp⟩ := hv
   exact ⟨us, e, Y6o h h1 hx hp (fun q hq => h3 q (by simpa [AV.ptrs] using hq))⟩
  ·simp at ho
 ·simp at ho
def ValCs (c : Cx) (s : St) : List AV -> List Value -> Prop
 | [], us => us = []
 | v :: vs, us => ∃ u us', us = u :: us' /\ (∃ cells, ValC c s v u cells) /\ ValCs c s vs us'
theorem Y5n (h : Rel c (SS env ps tmps vs w cs bs)) (h1 : ∀ b, RoS c (SS env ps tmps vs w cs bs) b -> S b) : ∀ {ptys : List PTy} {avs : List AV} {us : List Value} {rvs : List RV}, ValCs c (SS env ps tmps vs w cs bs) avs us -> RVs caps env ptys avs = some rvs ->
  (∀ v ∈ avs, ∀ q ∈ v.refs, ∀ b ∈ bs q.1 (q.2 + 1), S b) -> (∀ v ∈ avs, ∀ q ∈ v.ptrs, ∀ l, ∀ b ∈ bs q l, S b) -> RVRels S w rvs us
 | [], [], us, rvs, hv, ho, h2, h3 => by simp only [RVs, Option.some.injEq] at ho; subst ho; exact hv
 | [], v :: avs, us, rvs, hv, ho, h2, h3 => by simp [RVs] at ho
 | p :: ptys, [], us, rvs, hv, ho, h2, h3 => by simp [RVs] at ho
 | p :: ptys, v :: avs, us, rvs, ⟨u, us', e, ⟨cells, hv1⟩, hv2⟩, ho, h2, h3 => by
  simp only [RVs] at ho
  cases hx : RVof caps env p v with
  | none => rw [hx] at ho; simp at ho
  | some x =>
   rw [hx] at ho
   cases hxs : RVs caps env ptys avs with
   | none => rw [hxs] at ho; simp at ho
   | some xs' =>
    rw [hxs] at ho
    simp only [Option.some.injEq] at ho
    subst ho
    exact ⟨u, us', e, Y8s h hv1 hx h1 (h2 v List.mem_cons_self) (h3 v List.mem_cons_self), Y5n h h1 hv2 hxs (fun v hv => h2 v (List.mem_cons_of_mem _ hv)) (fun v hv => h3 v (List.mem_cons_of_mem _ hv))⟩
end
end Go.FP

namespace Go.FP
open Go.RowKit
theorem Yn {bds : List (List Nat)} {l b : Nat} (h : b ∈ bds.getD l []) : b ∈ bds.flatten := by
 rw [List.getD_eq_getElem?_getD] at h
 cases hl : bds[l]? with
 | none => rw [hl] at h; simp at h
 | some x => rw [hl] at h; exact List.mem_flatten.2 ⟨x, List.mem_of_getElem? hl, h⟩
theorem Y19 : ∀ {bds : List (List Nat)}, bds.flatten.Nodup -> (∀ l, (bds.getD l []).Nodup) /\ ∀ l l' b, b ∈ bds.getD l [] -> b ∈ bds.getD l' [] -> l = l'
 | [], h => ⟨fun l => by simp, fun l l' b hb => by simp at hb⟩
 | x :: bds, h => by
  simp only [List.flatten_cons, List.nodup_append] at h
  obtain ⟨h1, h2, h3⟩ := h
  obtain ⟨k1, k2⟩ := Y19 h2
  refine ⟨fun l => ?_, fun l l' b hb hb' => ?_⟩
  ·cases l with
   | zero => exact h1
   | succ l => exact k1 l
  ·cases l with
   | zero => cases l' with
    | zero => rfl
    | succ l' => exact absurd rfl (h3 b hb b (Yn (l := l') hb'))
   | succ l => cases l' with
    | zero => exact absurd rfl (h3 b hb' b (Yn (l := l) hb))
    | succ l' => rw [k2 l l' b hb hb']
theorem Yaw {S : Nat -> Prop} {w : World} (fr : Lvl) (t : Ty) {ch : List Value} {x : t.D} {b : List Nat} (h : Rep S w t fr.res ch x b) :
  (leaves t x (newMode fr) 0).length = ch.length /\ (∀ lf ∈ leaves t x (newMode fr) 0, lf.m.settled = true) /\ ∃ bds : List (List Nat), bds.length = ch.length /\ b = bds.flatten /\
   ∀ (l : Nat) (lf : Leaf) (u : Value), (leaves t x (newMode fr) 0)[l]? = some lf -> ch[l]? = some u -> ∃ m, lf.m = .at_ m /\ Rep S w lf.t m [u] lf.x (bds.getD l []) := by
 exact Y33 fr.res t 0 h
theorem Yde {S : Nat -> Prop} {w : World} {t : Ty} {m : Lvl} {u : Value} {x : t.D} {b : List Nat} (h : Rep S w t m [u] x b) : ∃ m', upgM t (.at_ m) = .at_ m' /\ Rep S w t m' [u] x b := by
 cases t with
 | slice e te =>
  simp only [upgM]
  by_cases hc : (te.flatB && (Mode.at_ m == .at_ .sh)) = true
  ·rw [if_pos hc]
   simp only [Bool.and_eq_true, beq_iff_eq, Mode.at_.injEq] at hc
   obtain ⟨hf, rfl⟩ := hc
   obtain ⟨v, xs, b0, b1, h1, h2, h3, h4⟩ := h
   refine ⟨.dp, rfl, v, xs, b0, b1, h1, h2, El.imp (fun c x b _ h => ?_) h3, h4⟩
   obtain ⟨e1, e2⟩ := Rep.flat (S' := S) (w' := w) (m' := .dp) hf h
   rw [e1]; exact e2
  ·rw [if_neg hc]; exact ⟨m, rfl, h⟩
 | _ => exact ⟨m, rfl, h⟩
theorem Ya0 {t : Ty} {m : Mode} (h : m.settled = true) : (upgM t m).settled = true := by
 unfold upgM
 split
 ·split
  ·rfl
  ·exact h
 ·exact h
theorem Ydq {t : Ty} {m : Mode} (h : ∀ k, m ≠ .at_ (.pn k)) : ∀ k, upgM t m ≠ .at_ (.pn k) := by
 intro k
 unfold upgM
 split
 ·split
  ·simp
  ·exact h k
 ·exact h k
theorem Y4n {S : Nat -> Prop} {base : Nat} {w : World} {B : List Nat} : ∀ {rs : List (Ty × Lvl)} {xs : List (Σ t : Ty, t.D)} {chs : List (List Value)} {bs : List Nat} {sh : List (Bool × Nat)} {ls : List Leaf}, ResRel S base w B rs xs chs bs -> resLeaves rs xs = some (sh, ls) ->
  TupCells sh (resVals rs chs) chs.flatten /\ ls.length = chs.flatten.length /\ (∀ lf ∈ ls, lf.m.settled = true) /\ ∃ bds : List (List Nat), bds.length = ls.length /\ bs = bds.flatten /\
   ∀ (l : Nat) (lf : Leaf) (u : Value), ls[l]? = some lf -> chs.flatten[l]? = some u -> ∃ m, lf.m = .at_ m /\ Rep (fun k => (S k \/ base <= k) /\ k ∉ B) w lf.t m [u] lf.x (bds.getD l [])
 | [], xs, chs, bs, sh, ls, ⟨e1, e2, e3⟩, h => by
  subst e1; subst e2; subst e3
  simp only [resLeaves, Option.some.injEq, Prod.mk.injEq] at h
  obtain ⟨rfl, rfl⟩ := h
  exact ⟨⟨rfl, rfl⟩, rfl, by simp, [], rfl, rfl, by simp⟩
 | (t, fr) :: rs, xs, chs, bs, sh, ls, ⟨x, xs', ch, chs', b, b', e1, e2, e3, h1, h2⟩, h => by
  subst e1; subst e2; subst e3
  simp only [resLeaves] at h
  cases hr : resLeaves rs xs' with
  | none => rw [hr] at h; simp at h
  | some q =>
   obtain ⟨sh', ls'⟩ := q
   rw [hr] at h
   simp only [dif_pos, Option.some.injEq, Prod.mk.injEq] at h
   obtain ⟨rfl, rfl⟩ := h
   obtain ⟨k1, k2, k3, bds', k4, k5, k6⟩ := Y4n h2 hr
   obtain ⟨m1, m2, bds, m3, m4, m5⟩ := Yaw fr t h1
   have hsz : ch.length = t.sz := Rep.len h1
   refine ⟨?_, by simp [m1, k2], fun lf hlf => ?_, bds ++ bds', by simp [m3, m1, k4], by rw [List.flatten_append, m4, k5], fun l lf u hl hu => ?_⟩
   ·refine ⟨mkV t.isAgg ch, resVals rs chs', ch, chs'.flatten, rfl, by simp, hsz, ?_, k1⟩
    cases hag : t.isAgg with
    | true => simp [mkV]
    | false =>
     obtain ⟨u, rfl⟩ := List.length_eq_one_iff.1 (hsz.trans (Y34 hag))
     simp [mkV]
     exact Rep.one h1 u (by simp)
   ·rcases List.mem_append.1 hlf with hlf | hlf
    ·obtain ⟨lf0, h0, rfl⟩ := List.mem_map.1 hlf
     exact Ya0 (m2 lf0 h0)
    ·exact k3 lf hlf
   ·simp only [List.flatten_cons] at hu
    have m1' : ((leaves t x (newMode fr) 0).map Leaf.upg).length = ch.length := by rw [List.length_map]; exact m1
    by_cases hlt : l < ch.length
    ·rw [List.getElem?_append_left (by omega)] at hl
     rw [List.getElem?_append_left hlt] at hu
     rw [List.getElem?_map] at hl
     obtain ⟨lf0, hl0, rfl⟩ := Option.map_eq_some_iff.1 hl
     obtain ⟨m, n1, n2⟩ := m5 l lf0 u hl0 hu
     obtain ⟨m', n3, n4⟩ := Yde n2
     refine ⟨m', by show upgM lf0.t lf0.m = _; rw [n1]; exact n3, ?_⟩
     rw [List.getD_eq_getElem?_getD, List.getElem?_append_left (by omega), <- List.getD_eq_getElem?_getD]
     exact n4
    ·rw [List.getElem?_append_right (by omega)] at hl
     rw [List.getElem?_append_right (by omega)] at hu
     obtain ⟨m, n1, n2⟩ := k6 (l - ch.length) lf u (by rw [<- m1']; exact hl) hu
     refine ⟨m, n1, ?_⟩
     rw [List.getD_eq_getElem?_getD, List.getElem?_append_right (by omega), <- List.getD_eq_getElem?_getD, m3]
     exact n2
theorem Y2i : ∀ {rs : List (Ty × Lvl)} {xs : List (Σ t : Ty, t.D)} {sh : List (Bool × Nat)} {ls : List Leaf}, resLeaves rs xs = some (sh, ls) -> ∀ lf ∈ ls, ∀ h, lf.m ≠ .at_ (.pn h)
 | [], [], sh, ls, h, lf, hl => by
  simp only [resLeaves, Option.some.injEq, Prod.mk.injEq] at h
  obtain ⟨rfl, rfl⟩ := h
  simp at hl
 | [], _ :: _, sh, ls, h, lf, hl => by simp [resLeaves] at h
 | _ :: _, [], sh, ls, h, lf, hl => by simp [resLeaves] at h
 | (t, fr) :: rs, x :: xs, sh, ls, h, lf, hl => by
  simp only [resLeaves] at h
  split at h
  ·cases hr : resLeaves rs xs with
   | none => rw [hr] at h; simp at h
   | some q =>
    obtain ⟨sh', ls'⟩ := q
    rw [hr] at h
    simp only [Option.some.injEq, Prod.mk.injEq] at h
    obtain ⟨rfl, rfl⟩ := h
    rcases List.mem_append.1 hl with hl | hl
    ·obtain ⟨lf0, hl0, rfl⟩ := List.mem_map.1 hl
     refine Ydq (fun h' e => ?_)
     rcases Y1n (lv := fr.res) t _ 0 lf0 hl0 with h0 | h0
     ·rw [h0] at e; cases e
     ·rw [h0] at e; cases fr <;> cases e
    ·exact Y2i hr lf hl
  ·simp at h
theorem Y4d {rs : List (Ty × Lvl)} {xs : List (Σ t : Ty, t.D)} {k : Kind} {ls : List Leaf} (ha : resAV rs xs = some (.con k ls)) : ∀ lf ∈ ls, ∀ h, lf.m ≠ .at_ (.pn h) := by
 unfold resAV at ha
 cases hr : resLeaves rs xs with
 | none => rw [hr] at ha; simp at ha
 | some q =>
  obtain ⟨sh, ls'⟩ := q
  rw [hr] at ha
  simp only [mkCon] at ha
  split at ha
  ·simp only [Option.some.injEq, AV.con.injEq] at ha
   rw [<- ha.2]; exact Y2i hr
  ·simp only [Option.some.injEq, AV.con.injEq] at ha
   rw [<- ha.2]; exact Y2i hr
theorem Y4x {c : Cx} {S : Nat -> Prop} {base : Nat} {w : World} {B : List Nat} {rs : List (Ty × Lvl)} {xs : List (Σ t : Ty, t.D)} {chs : List (List Value)} {bs : List Nat} {av : AV} (h : ResRel S base w B rs xs chs bs) (ha : resAV rs xs = some av) :
  ∃ k ls, av = .con k ls /\ KCells c w [] k (resVal rs chs) chs.flatten /\ ls.length = chs.flatten.length /\ (∀ lf ∈ ls, lf.m.settled = true) /\ ∃ bds : List (List Nat), bds.length = ls.length /\ bs = bds.flatten /\
   ∀ (l : Nat) (lf : Leaf) (u : Value), ls[l]? = some lf -> chs.flatten[l]? = some u -> ∃ m, lf.m = .at_ m /\ Rep (fun k => (S k \/ base <= k) /\ k ∉ B) w lf.t m [u] lf.x (bds.getD l []) := by
 unfold resAV at ha
 cases hr : resLeaves rs xs with
 | none => rw [hr] at ha; simp at ha
 | some q =>
  obtain ⟨sh, ls⟩ := q
  rw [hr] at ha
  obtain ⟨k1, k2, k3, k4⟩ := Y4n h hr
  have tup : ∀ {sh : List (Bool × Nat)} {us cs : List Value}, TupCells sh us cs -> us.length = sh.length := by
   intro sh
   induction sh with
   | nil => intro us cs h; rw [h.1]; rfl
   | cons p sh ih => intro us cs h; obtain ⟨v, vs', c, cs', e, _, _, _, h⟩ := h; rw [e, List.length_cons, ih h, List.length_cons]
  have hul := tup k1
  have manyCase : sh.length ≠ 1 -> resVal rs chs = .tuple (resVals rs chs).toArray := by
   intro hsh
   unfold resVal
   split
   ·rename_i v hv
    rw [hv] at hul
    exact absurd hul.symm hsh
   ·rfl
  simp only at ha
  split at ha
  ·rename_i agg n
   simp only [Option.some.injEq] at ha
   subst ha
   refine ⟨_, ls, rfl, ?_, k2, k3, k4⟩
   obtain ⟨v, vs', c, cs', e1, e2, e3, e4, e5, e6⟩ := k1
   have hv : resVals rs chs = [v] := by rw [e1, e5]
   have : resVal rs chs = v := by unfold resVal; rw [hv]
   rw [this, e2, e6, List.append_nil]
   cases agg with
   | true => exact ⟨by simpa using e4, rfl⟩
   | false => simp only [Bool.false_eq_true, if_false] at e4; exact ⟨e4.1, rfl⟩
  ·rename_i hsh
   simp only [Option.some.injEq] at ha
   subst ha
   refine ⟨_, ls, rfl, ⟨rfl, resVals rs chs, manyCase (fun h1 => ?_), k1⟩, k2, k3, k4⟩
   obtain ⟨⟨agg, n⟩, rfl⟩ := List.length_eq_one_iff.1 h1
   exact hsh agg n rfl
def freezeArgsE (rs : List (Ty × Lvl)) : List AV -> (Nat -> AV) -> (Nat -> AV)
 | [], E => E
 | v :: vs, E => freezeArgsE rs vs (match v with
  | .con _ ls => freezeAllE ls E
  | _ => E)
theorem Y3d (rs : List (Ty × Lvl)) : ∀ (vs : List AV) (env : Env), (freezeArgs rs vs env).length = env.length
 | [], env => rfl
 | v :: vs, env => by
  simp only [freezeArgs]
  rw [Y3d rs vs]
  cases v <;> first | rfl | exact (Ym _ _).2
theorem Y2j (rs : List (Ty × Lvl)) : ∀ (vs : List AV) {env : Env} {ps : Nat -> AV}, (∀ v ∈ vs, ∀ q ∈ v.refs, q.1 < env.length) -> (∀ r, Settled (ps r)) -> freezeArgsE rs vs (ovl env ps) = ovl (freezeArgs rs vs env) ps
 | [], env, ps, _, _ => rfl
 | v :: vs, env, ps, hv, hs => by
  simp only [freezeArgs, freezeArgsE]
  cases v with
  | con k ls =>
   simp only
   rw [Y17 ls (fun l hl q hq => hv _ List.mem_cons_self q (by simp only [AV.refs, List.mem_flatMap]; exact ⟨l, hl, hq⟩)) hs]
   exact Y2j rs vs (fun v hm q hq => by rw [(Ym ls env).2]; exact hv v (List.mem_cons_of_mem _ hm) q hq) hs
  | _ => exact Y2j rs vs (fun v hm => hv v (List.mem_cons_of_mem _ hm)) hs
theorem Y27 (rs : List (Ty × Lvl)) : ∀ (vs : List AV) (E : Nat -> AV) (r : Nat), (∀ q ∈ (freezeArgsE rs vs E r).refs, q ∈ (E r).refs) /\ (∀ q ∈ (freezeArgsE rs vs E r).ptrs, q ∈ (E r).ptrs)
 | [], E, r => ⟨fun q h => h, fun q h => h⟩
 | v :: vs, E, r => by
  simp only [freezeArgsE]
  cases v with
  | con k ls =>
   have h1 := Y27 rs vs (freezeAllE ls E) r
   have h2 := Yz ls E r
   exact ⟨fun q hq => h2.1 q (h1.1 q hq), fun q hq => h2.2 q (h1.2 q hq)⟩
  | _ => exact Y27 rs vs E r
theorem Rel.freezeArgs_ {c : Cx} (rs : List (Ty × Lvl)) : ∀ (vs : List AV) {s : St} (h : Rel c s), allCon vs = true -> ∃ bs', Rel c { s with env := freezeArgsE rs vs s.env, bs := bs' } /\ (∀ r l b, b ∈ bs' r l -> b ∈ s.bs r l) /\ (∀ v ∈ vs, ∀ q ∈ v.refs, bs' q.1 (q.2 + 1) = [])
 | [], s, h, _ => ⟨s.bs, h, fun _ _ _ h => h, by simp⟩
 | v :: vs, s, h, hc => by
  cases v with
  | con k ls =>
   simp only [allCon] at hc
   obtain ⟨bs1, h1, k1, e1⟩ := h.freezeAll_ ls
   obtain ⟨bs2, h2, k2, e2⟩ := Rel.freezeArgs_ rs vs h1 hc
   refine ⟨bs2, h2, fun r l b hb => k1 _ _ _ (k2 _ _ _ hb), fun v hv q hq => ?_⟩
   rcases List.mem_cons.1 hv with rfl | hv
   ·simp only [AV.refs, List.mem_flatMap] at hq
    obtain ⟨lf, hlf, hq⟩ := hq
    obtain ⟨t, x, m⟩ := lf
    cases m with
    | bor r j p =>
     simp only [Leaf.refs, List.mem_singleton] at hq
     subst hq
     have := e1 _ hlf r j p rfl
     exact List.eq_nil_iff_forall_not_mem.2 (fun b hb => by have hb2 : b ∈ bs1 r (j + 1) := k2 _ _ _ hb; rw [this] at hb2; simp at hb2)
    | at_ _ => simp [Leaf.refs] at hq
    | dead => simp [Leaf.refs] at hq
   ·exact e2 v hv q hq
  | _ => simp [allCon] at hc
theorem Y41 {S S' : Nat -> Prop} {base : Nat} {w : World} {B : List Nat} : ∀ {rs : List (Ty × Lvl)} {xs : List (Σ t : Ty, t.D)} {chs : List (List Value)} {bs : List Nat}, allFresh rs = true -> ResRel S base w B rs xs chs bs -> ResRel S' base w B rs xs chs bs
 | [], xs, chs, bs, _, h => h
 | (t, fr) :: rs, xs, chs, bs, ha, ⟨x, xs', ch, chs', b, b', e1, e2, e3, h1, h2⟩ => by
  simp only [allFresh, Bool.and_eq_true, Bool.or_eq_true, beq_iff_eq] at ha
  refine ⟨x, xs', ch, chs', b, b', e1, e2, e3, ?_, Y41 ha.2 h2⟩
  by_cases hfr : fr = .dp
  ·subst hfr; exact Rep.dpS h1
  ·have hf : t.flatB = true := ha.1.resolve_left hfr
   obtain ⟨rfl, h3⟩ := Rep.flat (S' := fun k => (S' k \/ base <= k) /\ k ∉ B) (w' := w) (m' := fr.res) hf h1
   exact h3
theorem Y2x (t : Ty) : ∀ (x : t.D) (n : Nat), ∀ lf ∈ leaves t x (fun _ => .at_ .ro) n, lf.m = .at_ .ro := by
 induction t with
 | int k => intro x n lf h; simp [leaves] at h; rw [h]
 | bool => intro x n lf h; simp [leaves] at h; rw [h]
 | str => intro x n lf h; simp [leaves] at h; rw [h]
 | slice e t ih => intro x n lf h; simp [leaves] at h; rw [h]
 | unit => intro x n lf h; simp [leaves] at h
 | pair a b iha ihb =>
  intro x n lf h
  simp only [leaves, List.mem_append] at h
  rcases h with h | h
  ·exact iha _ _ _ h
  ·exact ihb _ _ _ h
theorem Y2k (t : Ty) (x : t.D) (n : Nat) : (leaves t x (fun _ => .at_ .ro) n).flatMap Leaf.refs = [] := by
 rw [List.flatMap_eq_nil_iff]
 intro lf h
 have := Y2x t x n lf h
 obtain ⟨t', x', m⟩ := lf
 simp only at this
 subst this
 rfl
theorem Y6p (x : Σ t : Ty, t.D) : (ptrAV x).refs = [] := by
 unfold ptrAV
 simp only [AV.refs, List.append_nil]
 exact Y2k x.1 x.2 0
theorem Ybz {c : Cx} {s : St} {x : Σ t : Ty, t.D} {v : Value} (h : PtrV (RoS c s) s.w x.1 x.2 v) : ValC c s (ptrAV x) v [] := by
 obtain ⟨a, ch, rfl, hSa, hlt, hcell, hrep⟩ := h
 obtain ⟨h1, h2⟩ := Y1u x.1 (fun _ => .at_ .ro) 0 hrep
 refine ⟨a, rfl, fun l lf hl => ?_, hSa, hlt⟩
 have hm := Y2x x.1 x.2 0 lf (Yc hl)
 refine ⟨by rw [hm]; rfl, ?_⟩
 have hl' := hl
 rw [Y1] at hl'
 have hll : l < ch.length := by rw [<- h1]; exact (List.getElem?_eq_some_iff.1 hl').1
 refine ⟨ch[l], hcell l _ (List.getElem?_eq_getElem hll), ?_⟩
 have := (h2 l lf ch[l] hl' (List.getElem?_eq_getElem hll)).1
 obtain ⟨t', x', m⟩ := lf
 simp only at hm
 subst hm
 exact this
theorem Y4e {c : Cx} {s : St} : ∀ {xs : List (Σ t : Ty, t.D)} {vs : List Value}, PtrVs (RoS c s) s.w xs vs -> ValCs c s (xs.map ptrAV) vs
 | [], vs, h => h
 | x :: xs, vs, ⟨v, vs', e, h1, h2⟩ => ⟨v, vs', e, ⟨[], Ybz h1⟩, Y4e h2⟩
section
variable {P : Program} {o : Oper} {a : Act} {w : World} {R : Type} {K : Env -> Option R} {r : R} {next : Act -> World -> Prop} {Q : Exit -> Act -> World -> Prop} {c : Cx} {d : Nat} {T : Tab} {env : Env}
theorem RP.resultL {c : Cx} {env : Env} {tmps : Array Value} {w w' : World} {vs : Nat -> Value} {S : Nat -> Prop} {k : Kind} {ls : List Leaf} {rv : Value} {cells : List Value} {bds : List (List Nat)}
  (h : RP c env tmps w noP vs) (hS : ∀ cs bs, Rel c (SS env noP tmps vs w cs bs) -> ∃ cs1 bs1, Rel c (SS env noP tmps vs w cs1 bs1) /\ ∀ b, S b -> b < w'.heap.size -> RoS c (SS env noP tmps vs w cs1 bs1) b) (hb : Below w.heap.size w w') (h1 : KCells c w' [] k rv cells) (h2 : ls.length = cells.length) (h3 : ∀ lf ∈ ls, lf.m.settled = true) (h4 : bds.length = ls.length)
  (h6 : ∀ (l : Nat) (lf : Leaf) (u : Value), ls[l]? = some lf -> cells[l]? = some u -> ∃ m, lf.m = .at_ m /\ Rep (fun k => (S k \/ w.heap.size <= k) /\ k ∉ bds.flatten) w' lf.t m [u] lf.x (bds.getD l [])) (hnd : bds.flatten.Nodup) (hfr : ∀ b ∈ bds.flatten, w.heap.size <= b) (hmode : ∀ lf ∈ ls, ∀ h, lf.m ≠ .at_ (.pn h)) :
  RP c env tmps w' (upd noP env.length (.con k ls)) (upd vs env.length rv) := by
 obtain ⟨n1, n2⟩ := Y19 hnd
 obtain ⟨hl, cs, bs, hr, hno⟩ := h
 obtain ⟨cs1, bs1, hr1, hS1⟩ := hS cs bs hr
 have h : RP c env tmps w noP vs := ⟨hl, cs1, bs1, hr1, hno⟩
 have hq : (ovl env noP env.length).quiet = true := by rw [Yo (Nat.le_refl _)]; rfl
 have hltb : ∀ l b, b ∈ bds.getD l [] -> b < w'.heap.size := by
  intro l b hb
  have hlt : l < bds.length := by
   rw [List.getD_eq_getElem?_getD] at hb
   cases hl : bds[l]? with
   | none => rw [hl] at hb; simp at hb
   | some x => exact (List.getElem?_eq_some_iff.1 hl).1
  obtain ⟨m, _, hrep⟩ := h6 l _ _ (List.getElem?_eq_getElem (by omega)) (List.getElem?_eq_getElem (by omega))
  exact Rep.lt hrep b hb
 have hbd : ∀ l b, b ∈ (fun l => match l with | 0 => [] | l + 1 => bds.getD l []) l -> w.heap.size <= b /\ b < w'.heap.size := by
  intro l b hb
  cases l with
  | zero => simp at hb
  | succ l => exact ⟨hfr b (Yn hb), hltb l b hb⟩
 have hset := hr1.setNew (s := SS env noP tmps vs w cs1 bs1) (d := env.length) hq hb (.con k ls) rv cells (fun l => match l with | 0 => [] | l + 1 => bds.getD l []) hbd
  (fun l l' b hb hb' => by
   cases l with
   | zero => simp at hb
   | succ l => cases l' with
    | zero => simp at hb'
    | succ l' => rw [n2 l l' b hb hb'])
  (fun l => by
   cases l with
   | zero => exact List.nodup_nil
   | succ l => exact n1 l)
  (fun hkeep hpl hpt => by
   refine ⟨?_, by simp only [Y0]; exact h2, fun l hl => ?_, fun l lf u hl hu => ?_⟩
   ·simp only [Y0]
    exact h1.bare rfl
   ·simp only [Y0]
    rw [List.getD_eq_getElem?_getD, List.getElem?_eq_none (by omega)]
    rfl
   ·simp only [Y0] at hu
    obtain ⟨m, e1, hrep⟩ := h6 l lf u (by rw [<- Y1]; exact hl) hu
    obtain ⟨t, x, m'⟩ := lf
    simp only at e1
    have hmode := hmode _ (Yc hl)
    subst e1
    refine LeafRel.of_rep (by cases m <;> first | trivial | exact absurd rfl (hmode _)) ?_
    simp only [Y0]
    refine Rep.move (fun b hb1 hl1 => ⟨?_, rfl⟩) (fun _ _ => rfl) hrep
    obtain ⟨hb2, hb3⟩ := hb1
    have own_new : ∀ l, b ∉ (fun l => match l with | 0 => [] | l + 1 => bds.getD l []) l := by
     intro l hm
     cases l with
     | zero => simp at hm
     | succ l => exact hb3 (Yn hm)
    rcases hb2 with hb2 | hb2
    ·have hro := hS1 b hb2 hl1
     by_cases hlt : b < w.heap.size
     ·exact (hkeep b hro hlt).1
     ·refine ⟨fun r' l' hm => ?_, hro.2⟩
      simp only [upd] at hm
      split at hm
      ·exact own_new l' hm
      ·exact hro.1 _ _ hm
    ·refine ⟨fun r' l' hm => ?_, .inr (hr1.mine_new hb2)⟩
     simp only [upd] at hm
     split at hm
     ·exact own_new l' hm
     ·have : b < w.heap.size := (hr1.own _ _ _ hm).2
      omega)
 refine ⟨hl, _, _, Rel.congr hset (Yf (Nat.le_refl _) _).symm (Y1a (by omega) _).symm, fun r => ?_⟩
 rw [Yf (Nat.le_refl _)]
 by_cases hrn : r = env.length
 ·subst hrn
  rw [Y0, (Yd h3).1, (Yd h3).2]
  exact ⟨by simp, by simp⟩
 ·rw [Y3 _ _ hrn]; exact hno r
theorem RP.result {c : Cx} {env : Env} {tmps : Array Value} {w w' : World} {vs : Nat -> Value} {S : Nat -> Prop} {rs : List (Ty × Lvl)} {xs : List (Σ t : Ty, t.D)} {chs : List (List Value)} {bsx : List Nat} {av : AV}
  (h : RP c env tmps w noP vs) (hS : ∀ cs bs, Rel c (SS env noP tmps vs w cs bs) -> ∃ cs1 bs1, Rel c (SS env noP tmps vs w cs1 bs1) /\ ∀ b, S b -> b < w'.heap.size -> RoS c (SS env noP tmps vs w cs1 bs1) b) (hb : Below w.heap.size w w') (hres : ResRel S w.heap.size w' bsx rs xs chs bsx) (hnd : bsx.Nodup) (hfr : ∀ b ∈ bsx, w.heap.size <= b) (ha : resAV rs xs = some av) :
  RP c env tmps w' (upd noP env.length av) (upd vs env.length (resVal rs chs)) := by
 obtain ⟨k, ls, rfl, h1, h2, h3, bds, h4, h5, h6⟩ := Y4x hres ha
 subst h5
 exact h.resultL hS hb h1 h2 h3 h4 h6 hnd hfr (Y4d ha)
theorem Y2b {f : FuncId} (he : Enterable P f) (args : Array Value) (w : World) : (callFunc f args).run P w = .ok (.enter f args) w := by
 obtain ⟨fn, h1, h2, h3⟩ := he
 have h3' : ¬ fn.name = "runtime.NumGoroutine" := by simpa using h3
 have h2' : ¬ fn.body = none := by rw [<- Option.isNone_iff_eq_none, h2]; simp
 simp [callFunc, program, Sem.run, h1, h2', h3']
theorem Y3f {tmps : Array Value} {vs : Nat -> Value} {cs : Nat -> List Value} {bs : Nat -> Nat -> List Nat} (hlen : env.length = tmps.size) (h : Rel c (SS env noP tmps vs w cs bs)) : ∀ {ptys : List PTy} {args : List Operand}, args.length <= ptys.length -> ValCs c (SS env noP tmps vs w cs bs) (rdArgs env ptys args) (args.map (evT tmps)) /\ (rdArgs env ptys args).length = args.length
 | [], [], _ => ⟨rfl, rfl⟩
 | p :: ptys, [], _ => ⟨rfl, rfl⟩
 | [], x :: args, hl => by simp at hl
 | p :: ptys, x :: args, hl => by
  obtain ⟨h1, h2⟩ := Y3f hlen h (ptys := ptys) (args := args) (by simpa using hl)
  exact ⟨⟨_, _, rfl, Yg hlen h _ x, h1⟩, by simp [rdArgs, h2]⟩
theorem Y5v (hr : RE c env a.tmps w) : ∀ {ptys : List PTy} {args : List Operand}, ∀ v ∈ rdArgs env ptys args, (∀ q ∈ v.refs, q.1 < env.length) /\ (∀ q ∈ v.ptrs, q < env.length)
 | [], args, v, hv => by cases args <;> simp [rdArgs] at hv
 | p :: ptys, [], v, hv => by simp [rdArgs] at hv
 | p :: ptys, x :: args, v, hv => by
  simp only [rdArgs, List.mem_cons] at hv
  rcases hv with rfl | hv
  ·exact hr.refs _ x
  ·exact Y5v hr v hv
theorem ValCs.append {s : St} : ∀ {avs avs' : List AV} {us us' : List Value}, ValCs c s avs us -> ValCs c s avs' us' -> ValCs c s (avs ++ avs') (us ++ us')
 | [], avs', us, us', h, h' => by rw [show us = [] from h]; exact h'
 | v :: avs, avs', us, us', ⟨u, us2, e, h1, h2⟩, h' => ⟨u, us2 ++ us', by rw [e]; rfl, h1, h2.append h'⟩
theorem Ydf {sig : FuncId -> Option Sig} {caps : FuncId -> List Ty} {orc : Orc} (hO : OrcOk P sig orc) {cl : Call} {f : FuncId} {extra : List AV} {ex : List Value} (hop : o.op = .call cl) (hdst : o.dst = some d) (hr : RE c env a.tmps w) (hd : d < env.length)
  (hrun : Enterable P f -> (execOp a.eval o).run P w = .ok (.enter f (cl.args.map (evT a.tmps) ++ ex.toArray)) w) (hex : ∀ vs cs bs, Rel c (SS env noP a.tmps vs w cs bs) -> ValCs c (SS env noP a.tmps vs w cs bs) extra ex) (hexr : ∀ v ∈ extra, (∀ q ∈ v.refs, q.1 < env.length))
  {sg : Sig} (hsg : sig f = some sg) (hbx : sg.box = none /\ sg.newb = none) (hm : sg.muts = false) (how : sg.own = false) (hlen1 : (rdArgs env sg.params cl.args.toList ++ extra).length = sg.params.length) (hlen2 : (rdArgs env sg.params cl.args.toList ++ extra).length = cl.args.toList.length + extra.length) (hfr : allFresh sg.results = true \/ allCon (rdArgs env sg.params cl.args.toList ++ extra) = true)
  {rvs : List RV} (hrv : RVs caps env sg.params (rdArgs env sg.params cl.args.toList ++ extra) = some rvs)
  {q : OrcRes} (hq : orc f rvs = some q) (hK : (q.run.bind fun xs => match resAV sg.results (q.pk xs) with
     | none => none
     | some v => K (setD (some d) (if allFresh sg.results then env else freezeArgs sg.results (rdArgs env sg.params cl.args.toList ++ extra) env) v)) = some r) (hn : Next c a K r env.length next) : o.wp P a w next Q := by
 obtain ⟨x0, hres, hK⟩ := Option.bind_eq_some_iff.1 hK
 obtain ⟨hent, hspec⟩ := hO f sg rvs q x0 hsg hq hres
 generalize q.pk x0 = res at *
 rw [hbx.1, hbx.2, hm, how] at hspec
 replace hspec : FnSpec P f sg.results rvs res := hspec
 cases hra : resAV sg.results res with
 | none => rw [hra] at hK; simp at hK
 | some av =>
  rw [hra] at hK
  simp only at hK
  obtain ⟨vs, h⟩ := hr
  have hr : RE c env a.tmps w := ⟨vs, h⟩
  obtain ⟨hlen, cs, bs, hrel, hno⟩ := h
  have h : RP c env a.tmps w noP vs := ⟨hlen, cs, bs, hrel, hno⟩
  generalize hvs : rdArgs env sg.params cl.args.toList ++ extra = avs at *
  have hargl : cl.args.toList.length <= sg.params.length := by rw [<- hlen1, hlen2]; omega
  have hvals : ValCs c (SS env noP a.tmps vs w cs bs) avs (cl.args.toList.map (evT a.tmps) ++ ex) := by
   rw [<- hvs]
   exact (Y3f hlen hrel hargl).1.append (hex vs cs bs hrel)
  have hrefs : ∀ v ∈ avs, ∀ q ∈ v.refs, q.1 < env.length := by
   intro v hv
   rw [<- hvs] at hv
   rcases List.mem_append.1 hv with hv | hv
   ·exact (Y5v hr v hv).1
   ·exact hexr v hv
  let S : Nat -> Prop := fun b => RoS c (SS env noP a.tmps vs w cs bs) b \/ (if allFresh sg.results then True else ∃ v ∈ avs, ∃ q ∈ v.refs, b ∈ bs q.1 (q.2 + 1))
  have hrvr : RVRels S w rvs (cl.args.toList.map (evT a.tmps) ++ ex) := by
   refine Y5n hrel (fun b hb => .inl hb) hvals hrv (fun v hv q hq b hb => .inr ?_) (fun v hv q hq l b hb => .inr ?_)
   ·split
    ·trivial
    ·exact ⟨v, hv, q, hq, hb⟩
   ·split
    ·trivial
    ·rename_i hnf
     exfalso
     have hac := hfr.resolve_left hnf
     have : ∀ {avs : List AV}, allCon avs = true -> ∀ v ∈ avs, v.ptrs = [] := by
      intro avs
      induction avs with
      | nil => simp
      | cons u avs ih =>
       intro hac v hv
       cases u with
       | con k ls =>
        rcases List.mem_cons.1 hv with rfl | hv
        ·rfl
        ·exact ih hac v hv
       | _ => simp [allCon] at hac
     rw [this hac v hv] at hq
     simp at hq
  unfold Oper.wp
  rw [hrun hent]
  show Calls P f _ w _
  have hargs : cl.args.map (evT a.tmps) ++ ex.toArray = (cl.args.toList.map (evT a.tmps) ++ ex).toArray := by
   rw [<- List.append_toArray, <- List.map_toArray, Array.toArray_toList]
  rw [hargs]
  refine Calls.mono (hspec S w _ hrvr) ?_
  rintro e w' ⟨chs, bsx, rfl, hb, hres, hnd, hfrs⟩
  show next (a.put o.dst (resVal sg.results chs)) w'
  rw [hdst]
  by_cases haf : allFresh sg.results = true
  ·rw [if_pos haf] at hK
   have hp := h.result (S := fun _ => False) (fun cs bs hr => ⟨cs, bs, hr, fun b hb => hb.elim⟩) hb (Y41 haf hres) hnd hfrs hra
   have := RE.commit hp hd
   rw [Y0] at this
   exact hn _ _ _ hK this (by rw [Y1c]) rfl
  ·rw [if_neg haf] at hK
   obtain ⟨bs1, hr1, k1, k2⟩ := hrel.freezeArgs_ sg.results avs (hfr.resolve_left haf)
   have e := Y2j sg.results avs (ps := noP) hrefs (fun r => .inl rfl)
   have hl1 := Y3d sg.results avs env
   have hr2 : Rel c (SS (freezeArgs sg.results avs env) noP a.tmps vs w cs bs1) := Rel.congr hr1 e rfl
   have h1 : RP c (freezeArgs sg.results avs env) a.tmps w noP vs := by
    refine ⟨hl1.trans hlen, cs, bs1, hr2, fun r => ?_⟩
    rw [hl1, <- e]
    have := Y27 sg.results avs (ovl env noP) r
    exact ⟨fun q hq => (hno r).1 q (this.1 q hq), fun q hq => (hno r).2 q (this.2 q hq)⟩
   have hp := h1.result (S := S) (fun cs' bs' hr' => ⟨cs, bs1, hr2, fun b hb _ => ?_⟩) hb hres hnd hfrs hra
   ·have := RE.commit hp (by rw [hl1]; exact hd)
    rw [Y0] at this
    exact hn _ _ _ hK this (by rw [Y1c, hl1]) rfl
   ·rcases hb with hb | hb
    ·exact ⟨fun r l hm => hb.1 r l (k1 r l b hm), hb.2⟩
    ·rw [if_neg haf] at hb
     obtain ⟨v, hv, q, hq, hb⟩ := hb
     refine ⟨fun r l hm => ?_, .inr (hrel.own _ _ _ hb).1⟩
     have hm' : b ∈ bs r l := k1 r l b hm
     obtain ⟨rfl, rfl⟩ := hrel.disj _ _ _ _ _ hm' hb
     have : b ∈ bs1 q.1 (q.2 + 1) := hm
     rw [k2 v hv q hq] at this
     simp at this
end
end Go.FP

namespace Go.FP
open Go.RowKit
section
variable {P : Program} {o : Oper} {a : Act} {w : World} {R : Type} {K : Env -> Option R} {r : R} {next : Act -> World -> Prop} {Q : Exit -> Act -> World -> Prop} {c : Cx} {d : Nat} {T : Tab} {env : Env} {sig : FuncId -> Option Sig} {caps : FuncId -> List Ty} {orc : Orc}
theorem Yco {cl : Call} {f : FuncId} {extra : List AV} {ex : List Value} (hop : o.op = .call cl) (hdst : o.dst = some d) (hr : RE c env a.tmps w) (hd : d < env.length)
  (hrun : Enterable P f -> (execOp a.eval o).run P w = .ok (.enter f (cl.args.map (evT a.tmps) ++ ex.toArray)) w) (hex : ∀ vs cs bs, Rel c (SS env noP a.tmps vs w cs bs) -> ValCs c (SS env noP a.tmps vs w cs bs) extra ex) (hexr : ∀ v ∈ extra, (∀ q ∈ v.refs, q.1 < env.length))
  {sg : Sig} {id : TypeId} (hO : ∀ args q x, orc f args = some q -> q.run = some x -> Enterable P f /\ ∃ t y, q.pk x = [⟨t, y⟩] /\ FnSpecNew P f id t args y)
  (hK : callN caps orc (some d) f sg id cl.args.toList extra env K = some r) (hn : Next c a K r env.length next) : o.wp P a w next Q := by simp [callN] at hK
end
end Go.FP

namespace Go.FP
open Go.RowKit
section
variable {P : Program} {o : Oper} {a : Act} {w : World} {R : Type} {K : Env -> Option R} {r : R} {next : Act -> World -> Prop} {Q : Exit -> Act -> World -> Prop} {c : Cx} {d : Nat} {T : Tab} {env : Env} {sig : FuncId -> Option Sig} {caps : FuncId -> List Ty} {orc : Orc}
theorem Ycp (hO : OrcOk P sig orc) {cl : Call} {f : FuncId} {extra : List AV} {ex : List Value} (hop : o.op = .call cl) (hdst : o.dst = some d) (hr : RE c env a.tmps w) (hd : d < env.length)
  (hrun : Enterable P f -> (execOp a.eval o).run P w = .ok (.enter f (cl.args.map (evT a.tmps) ++ ex.toArray)) w) (hex : ∀ vs cs bs, Rel c (SS env noP a.tmps vs w cs bs) -> ValCs c (SS env noP a.tmps vs w cs bs) extra ex)
  {sg : Sig} (hsg : sig f = some sg) (hbx : sg.box = none /\ sg.newb = none) (hm : sg.muts = false) (how : sg.own = true) (hK : callS orc (some d) f sg cl.args.toList extra env K = some r) (hn : Next c a K r env.length next) : o.wp P a w next Q := by simp [callS] at hK
end
end Go.FP

namespace Go.FP
open Go.RowKit
section
variable {P : Program} {o : Oper} {a : Act} {w : World} {R : Type} {K : Env -> Option R} {r : R} {next : Act -> World -> Prop} {Q : Exit -> Act -> World -> Prop} {c : Cx} {d : Nat} {T : Tab} {env : Env}
theorem RP.grabPlace {tmps : Array Value} {ps : Nat -> AV} {vs : Nat -> Value} (h : RP c env tmps w ps vs) (hs : ∀ r, Settled (ps r)) {ts r j : Nat} {t : Ty} {x : t.D} (hk : get env ts = .con .val [⟨t, x, .bor r j []⟩]) {lp : Leaf} (hl : (get env r).leaf? j = some lp) {lv : Lvl} (hm : lp.m = .at_ lv) (hlv : lv ≠ .ro) {n : Nat} (hn : env.length <= n) (hp : ps n = .undef) :
  let env2 := killPlace r j env
  RP c (put env2 r ((get env2 r).setLeaf j ⟨lp.t, lp.x, .dead⟩)) tmps w (upd ps n (.con .val [⟨t, x, .at_ lv⟩])) (upd vs n (tmps.getD ts undef)) := by
 intro env2
 have htl : ts < env.length := Yv hk
 have hrl : r < env.length := Y29 hl
 have hrn : r ≠ n := Nat.ne_of_lt (Nat.lt_of_lt_of_le hrl hn)
 obtain ⟨hlen, cs, bs, hr, hno⟩ := h
 replace hr : Rel c (SS env ps tmps vs w cs bs) := hr
 -- what is borrowed is the place itself
 have hav := hr.av ts
 have e1 : (SS env ps tmps vs w cs bs).env ts = .con .val [⟨t, x, .bor r j []⟩] := by show ovl env ps ts = _; rw [Y8 htl]; exact hk
 have e2 : (SS env ps tmps vs w cs bs).tm ts = tmps.getD ts undef := if_pos (hlen ▸ htl)
 have hbor : (cs r)[j]? = some (tmps.getD ts undef) /\ lp = ⟨t, x, lp.m⟩ := by
  rw [e1, e2] at hav
  obtain ⟨⟨g1, _⟩, g2, _, g4⟩ := hav
  have := g4 0 _ (tmps.getD ts undef) rfl (by rw [g1]; rfl)
  obtain ⟨_, _, ⟨lf', u', ⟨g5, g6, g7⟩, g8⟩, _⟩ := this
  have g5 : (ovl env ps r).leaf? j = some lf' := g5
  rw [Y8 hrl, hl] at g5
  simp only [Option.some.injEq] at g5
  obtain ⟨m, g9, rfl⟩ := g8 rfl
  subst g5
  exact ⟨g7, by rw [g9]⟩
 obtain ⟨hcj, hlp⟩ := hbor
 obtain ⟨hk2, hk3⟩ := hr.killPlace_ r j
 obtain ⟨k0, ls0, hv0⟩ : ∃ k ls, get env r = .con k ls := by
  cases hv : get env r with
  | con k ls => exact ⟨k, ls, rfl⟩
  | _ => rw [hv] at hl; simp [AV.leaf?] at hl
 have hl' : leafAt ls0 j = some lp := by rw [hv0] at hl; exact hl
 let E := chgE (killPG r j) (ovl env ps)
 have hEr : E r = .con k0 (chgs (killPG r j) ls0) := by show (ovl env ps r).chg _ = _; rw [Y8 hrl, hv0]; rfl
 have hEn : E n = .undef := by show (ovl env ps n).chg _ = _; rw [Yo hn, hp]; rfl
 have hlj : leafAt (chgs (killPG r j) ls0) j = some lp := by
  rw [Ye, hl']
  obtain ⟨t', x', m'⟩ := lp
  simp only at hm
  subst hm
  rfl
 let dl : Leaf := ⟨lp.t, lp.x, .dead⟩
 let s' : St := ⟨upd (upd E r (.con k0 (setAt (chgs (killPG r j) ls0) j dl))) n (.con .val [⟨t, x, .at_ lv⟩]), upd (ovlT tmps vs) n (tmps.getD ts undef), w, upd cs n [tmps.getD ts undef], upd (updP bs r (j + 1) []) n (fun l => if l = 1 then bs r (j + 1) else [])⟩
 have hbn := Yaj hr hn hp
 have hsame : ∀ r', ¬ (r' = r \/ r' = n) -> s'.env r' = (E r').chg noG /\ s'.tm r' = ovlT tmps vs r' /\ s'.cs r' = cs r' /\ s'.bs r' = bs r' := fun r' hr' => by
  simp only [not_or] at hr'
  refine ⟨by rw [AV.chg_no]; show upd _ _ _ r' = _; rw [Y3 _ _ hr'.2, Y3 _ _ hr'.1], Y3 _ _ hr'.2, Y3 _ _ hr'.2, ?_⟩
  show upd _ _ _ r' = _
  rw [Y3 _ _ hr'.2, Y3l _ _ _ hr'.1]
 have hEr' : s'.env r = .con k0 (setAt (chgs (killPG r j) ls0) j dl) := by show upd _ _ _ r = _; rw [Y3 _ _ hrn, Y0]
 have hbr : s'.bs r = fun l => if l = j + 1 then [] else bs r l := by
  show upd _ _ _ r = _
  rw [Y3 _ _ hrn]
  funext l
  simp [updP]
 have hcr : s'.cs r = cs r := Y3 _ _ hrn
 have hbnn : s'.bs n = fun l => if l = 1 then bs r (j + 1) else [] := Y0 _ _ _
 have hown : ∀ r' j', ¬ (r' = r /\ j' = j) -> r' ≠ n -> SamePl ⟨E, ovlT tmps vs, w, cs, bs⟩ s' r' j' := by
  intro r' j' hne hne'
  by_cases hrr : r' = r
  ·subst hrr
   refine ⟨fun lf u ⟨g1, g2, g3⟩ => ⟨?_, g2, by rw [hcr]; exact g3⟩, by rw [hbr]; exact if_neg (fun h => hne ⟨rfl, by omega⟩), fun _ _ => rfl⟩
   rw [hEr']
   have g1 : (E r').leaf? j' = some lf := g1
   rw [hEr] at g1
   simp only [AV.leaf?] at g1 ⊢
   rw [Y1, Ya, List.getElem?_set_ne (fun h => hne ⟨rfl, h.symm⟩), <- Y1]
   exact g1
  ·have hs4 := hsame r' (by simp only [not_or]; exact ⟨hrr, hne'⟩)
   exact ⟨fun lf u ho => ho.chg hs4.1 hs4.2.2.1, by rw [hs4.2.2.2], fun _ _ => rfl⟩
 have hptr : ∀ r', r' ≠ n -> SamePtr ⟨E, ovlT tmps vs, w, cs, bs⟩ s' r' := by
  intro r' hne'
  by_cases hrr : r' = r
  ·subst hrr
   refine ⟨Y3 _ _ hne', fun e ls he => ?_⟩
   have he : E r' = _ := he
   rw [hEr] at he
   cases he
   exact ⟨e, _, hEr'⟩
  ·have hs4 := hsame r' (by simp only [not_or]; exact ⟨hrr, hne'⟩)
   exact SamePtr.chg hs4.1 hs4.2.1
 have hLr : ∀ r', (∀ q ∈ (E r').refs, ¬ (q.1 = r /\ q.2 = j) /\ q.1 ≠ n) /\ (∀ q ∈ (E r').ptrs, q ≠ n) := fun r' =>
  ⟨fun q hq => ⟨fun hq2 => hk3 r' q hq (Prod.ext hq2.1 hq2.2), by have h1 := (hno r').1 q ((Yl (Y1m r j) (ovl env ps r')).1 q hq); omega⟩,
   fun q hq => by have h1 := (hno r').2 q ((Yl (Y1m r j) (ovl env ps r')).2 q hq); omega⟩
 obtain ⟨hrepj, hpinj⟩ : Rep (RoS c ⟨E, ovlT tmps vs, w, cs, bs⟩) w t lv [tmps.getD ts undef] x (bs r (j + 1)) /\ lv.pinOk c (tmps.getD ts undef) := by
  have hav2 := hk2.av r
  have : (E r) = _ := hEr
  simp only [show chgE (killPG r j) (ovl env ps) r = _ from hEr] at hav2
  have h6 := hav2.2.2.2 j lp _ hlj hcj
  rw [hlp, hm] at h6
  exact ⟨h6.rep, h6.pin⟩
 have hmain : Rel c s' := by
  refine Rel.step (s' := s') noG hk2 (fun r' => r' = r \/ r' = n) (fun r' j' => ¬ (r' = r /\ j' = j) /\ r' ≠ n) (fun r' => r' ≠ n) hsame (Below.refl _ _) (fun b _ _ => rfl)
   (fun r' l b hD hb => ?_) (fun r1 l1 r2 l2 b hD hD' hb1 hb2 => ?_) (fun r' l hD => ?_) (fun r' _ => hLr r') (fun hkp => ⟨Yr hkp (fun r' j' hL => hown r' j' hL.1 hL.2), Y15 hkp (fun r' j' hL => hown r' j' hL.1 hL.2), fun r' hL _ => hptr r' hL⟩) (fun hkp r' hD => ?_)
  ·by_cases hrr : r' = r
   ·subst hrr
    rw [hbr] at hb
    replace hb : b ∈ (if l = j + 1 then [] else bs r' l) := hb
    split at hb
    ·simp at hb
    ·exact ⟨(hk2.own _ _ _ hb).2, .inr ⟨r', l, .inl rfl, hb⟩⟩
   ·have e := hD.resolve_left hrr
    subst e
    rw [hbnn] at hb
    replace hb : b ∈ (if l = 1 then bs r (j + 1) else []) := hb
    split at hb
    ·exact ⟨(hk2.own _ _ _ hb).2, .inr ⟨r, j + 1, .inl rfl, hb⟩⟩
    ·simp at hb
  ·by_cases h1 : r1 = r <;> by_cases h2 : r2 = r
   ·subst h1; subst h2
    rw [hbr] at hb1 hb2
    replace hb1 : b ∈ (if l1 = j + 1 then [] else bs _ l1) := hb1
    replace hb2 : b ∈ (if l2 = j + 1 then [] else bs _ l2) := hb2
    split at hb1
    ·simp at hb1
    ·split at hb2
     ·simp at hb2
     ·exact hk2.disj _ _ _ _ _ hb1 hb2
   ·subst h1
    have e := hD'.resolve_left h2
    subst e
    exfalso
    rw [hbr] at hb1
    rw [hbnn] at hb2
    replace hb1 : b ∈ (if l1 = j + 1 then [] else bs r1 l1) := hb1
    replace hb2 : b ∈ (if l2 = 1 then bs r1 (j + 1) else []) := hb2
    split at hb1
    ·simp at hb1
    ·rename_i hne
     split at hb2
     ·exact hne (hk2.disj _ _ _ _ _ hb1 hb2).2
     ·simp at hb2
   ·subst h2
    have e := hD.resolve_left h1
    subst e
    exfalso
    rw [hbr] at hb2
    rw [hbnn] at hb1
    replace hb2 : b ∈ (if l2 = j + 1 then [] else bs r2 l2) := hb2
    replace hb1 : b ∈ (if l1 = 1 then bs r2 (j + 1) else []) := hb1
    split at hb2
    ·simp at hb2
    ·rename_i hne
     split at hb1
     ·exact hne (hk2.disj _ _ _ _ _ hb2 hb1).2
     ·simp at hb1
   ·have e1 := hD.resolve_left h1
    have e2 := hD'.resolve_left h2
    subst e1
    subst e2
    rw [hbnn] at hb1 hb2
    replace hb1 : b ∈ (if l1 = 1 then bs r (j + 1) else []) := hb1
    replace hb2 : b ∈ (if l2 = 1 then bs r (j + 1) else []) := hb2
    split at hb1
    ·split at hb2
     ·exact ⟨rfl, by omega⟩
     ·simp at hb2
    ·simp at hb1
  ·by_cases hrr : r' = r
   ·subst hrr
    rw [hbr]
    show (if l = j + 1 then [] else bs r' l).Nodup
    split
    ·exact List.nodup_nil
    ·exact hk2.nodup _ _
   ·have e := hD.resolve_left hrr
    subst e
    rw [hbnn]
    show (if l = 1 then bs r (j + 1) else []).Nodup
    split
    ·exact hk2.nodup _ _
    ·exact List.nodup_nil
  ·by_cases hrr : r' = r
   ·subst hrr
    have hav2 := hk2.av r'
    simp only [show chgE (killPG r' j) (ovl env ps) r' = _ from hEr] at hav2
    obtain ⟨g1, g2, g3, g4⟩ := hav2
    rw [hEr']
    have ht' : s'.tm r' = ovlT tmps vs r' := Y3 _ _ hrn
    rw [ht']
    refine ⟨?_, by rw [Ya, List.length_set, hcr]; exact g2, fun l hl2 => ?_, fun l lf u hl2 hu => ?_⟩
    ·rw [hcr, hbr]
     exact g1
    ·rw [Ya, List.length_set] at hl2
     rw [hbr]
     show (if l + 1 = j + 1 then [] else bs r' (l + 1)) = []
     split
     ·rfl
     ·exact g3 l hl2
    ·rw [hcr] at hu
     rw [Y1, Ya] at hl2
     by_cases hlj2 : l = j
     ·subst hlj2
      rw [List.getElem?_set_self (by rw [Y1] at hlj; exact (List.getElem?_eq_some_iff.1 hlj).1)] at hl2
      simp only [Option.some.injEq] at hl2
      subst hl2
      refine ⟨by rw [hbr]; simp, ?_⟩
      have hu' : u = tmps.getD ts undef := by rw [hcj] at hu; exact (Option.some.inj hu).symm
      rw [hu']
      exact Rep.one hrepj _ (by simp)
     ·rw [List.getElem?_set_ne (fun h => hlj2 h.symm), <- Y1] at hl2
      have h6 := g4 l lf u hl2 hu
      have := h6.chg (g := noG) (r' := r') hkp (Yr hkp (fun r' j' (hL : ¬ (r' = _ /\ j' = j) /\ r' ≠ n) => hown r' j' hL.1 hL.2)) (fun q hq => by
       have := (hLr r').1 q (by rw [show E r' = _ from hEr]; simp only [AV.refs, List.mem_flatMap]; exact ⟨lf, Yc hl2, hq⟩)
       exact this) (by rw [hbr]; show (if l + 1 = j + 1 then [] else bs r' (l + 1)) = _; rw [if_neg (by omega)]) (fun _ _ => rfl)
      have hno1 : lf.chg noG = lf := by obtain ⟨t, x, m⟩ := lf; cases m <;> rfl
      rw [hno1] at this
      exact this
   ·have e := hD.resolve_left hrr
    subst e
    have e1 : s'.env r' = .con .val [⟨t, x, .at_ lv⟩] := Y0 _ _ _
    have e2 : s'.tm r' = tmps.getD ts undef := Y0 _ _ _
    have e3 : s'.cs r' = [tmps.getD ts undef] := Y0 _ _ _
    rw [e1, e2]
    refine ⟨by rw [e3, hbnn]; exact ⟨rfl, rfl⟩, by rw [e3]; rfl, fun l hl2 => ?_, fun l lf u hl2 hu => ?_⟩
    ·rw [hbnn]
     show (if l + 1 = 1 then _ else _) = []
     rw [if_neg (by simp at hl2; omega)]
    ·rw [e3] at hu
     rw [Y1] at hl2
     cases l with
     | succ l => simp at hl2
     | zero =>
      simp only [List.getElem?_cons_zero, Option.some.injEq] at hl2 hu
      subst hl2; subst hu
      refine LeafRel.of_rep hpinj ?_
      rw [hbnn]
      exact Rep.move (fun b hb hl => hkp b hb hl) (fun _ _ => rfl) hrepj
 have eE : upd (upd E r (.con k0 (setAt (chgs (killPG r j) ls0) j dl))) n (.con .val [⟨t, x, .at_ lv⟩]) = ovl (put env2 r ((get env2 r).setLeaf j dl)) (upd ps n (.con .val [⟨t, x, .at_ lv⟩])) := by
  rw [Yf (by rw [Y7]; show (chgEnv _ _).length <= n; rw [Y6]; exact hn), Y14 (by show r < (chgEnv _ _).length; rw [Y6]; exact hrl)]
  congr 1
  have : get env2 r = .con k0 (chgs (killPG r j) ls0) := by show get (chgEnv _ _) r = _; rw [Y10, hv0]; rfl
  rw [this]
  congr 1
  exact Y2f _ _ _ hs
 refine ⟨by rw [Y7]; show (chgEnv _ _).length = _; rw [Y6]; exact hlen, _, _, Rel.congr hmain eE (Y1a (hlen ▸ hn) _).symm, fun r' => ?_⟩
 rw [Y7, show env2.length = env.length from Y6 _ _, <- eE]
 simp only [upd]
 split
 ·exact ⟨by simp [AV.refs, Leaf.refs], by simp [AV.ptrs]⟩
 ·split
  ·rename_i hrr
   subst hrr
   refine ⟨fun q hq => ?_, by simp [AV.ptrs]⟩
   have h1 := Y4b (l := dl) rfl q hq
   have h2 : q ∈ (E r').refs := by rw [show E r' = _ from hEr]; exact h1
   exact (hno r').1 q ((Yl (Y1m r' j) (ovl env ps r')).1 q h2)
  ·exact ⟨fun q hq => (hno r').1 q ((Yl (Y1m r j) (ovl env ps r')).1 q hq), fun q hq => (hno r').2 q ((Yl (Y1m r j) (ovl env ps r')).2 q hq)⟩
end
end Go.FP

namespace Go.FP
open Go.RowKit
theorem Y4f {c : Cx} {env : Env} {ps : Nat -> AV} {tmps : Array Value} {vs : Nat -> Value} {w : World} {cs : Nat -> List Value} {bs : Nat -> Nat -> List Nat} (hl : env.length = tmps.size) (h : Rel c (SS env ps tmps vs w cs bs)) {n : Nat} (hn : env.length <= n) {t : Ty} {x : t.D} {lv : Lvl} (hp : ps n = .con .val [⟨t, x, .at_ lv⟩]) :
  Rep (RoS c (SS env ps tmps vs w cs bs)) w t lv [vs n] x (bs n 1) /\ bs n 0 = [] /\ cs n = [vs n] := by
 have hav := h.av n
 have e1 : (SS env ps tmps vs w cs bs).env n = .con .val [⟨t, x, .at_ lv⟩] := by show ovl env ps n = _; rw [Yo hn, hp]
 have e2 : (SS env ps tmps vs w cs bs).tm n = vs n := if_neg (by rw [<- hl]; omega)
 rw [e1, e2] at hav
 obtain ⟨⟨g1, g2⟩, g3, _, g4⟩ := hav
 exact ⟨(g4 0 _ (vs n) rfl (by rw [g1]; rfl)).rep, g2, g1⟩
theorem RP.reformAt {c : Cx} {env : Env} {tmps : Array Value} {w : World} {ps : Nat -> AV} {vs : Nat -> Value} (hl : env.length = tmps.size) {cs : Nat -> List Value} {bs : Nat -> Nat -> List Nat} (h1 : Rel c (SS env ps tmps vs w cs bs)) (h2 : ∀ r, (∀ q ∈ (ovl env ps r).refs, q.1 < env.length) /\ (∀ q ∈ (ovl env ps r).ptrs, q < env.length)) {n m : Nat} (hn : env.length <= n) (hm : env.length <= m) {av : AV} {v : Value} {w' : World} (hrf : av.refs = [] /\ av.ptrs = [])
  (hb : Below c.base w w') (hh : ∀ b, b < w.heap.size -> (∀ l, b ∉ bs n l) -> w'.heap[b]? = w.heap[b]?) (cd : List Value) (bd : Nat -> List Nat)
  (k1 : ∀ l b, b ∈ bd l -> b < w'.heap.size /\ (w.heap.size <= b \/ ∃ l', b ∈ bs n l' \/ b ∈ bs m l')) (k2 : ∀ l l' b, b ∈ bd l -> b ∈ bd l' -> l = l') (k3 : ∀ l, (bd l).Nodup)
  (k4 : let s' : St := ⟨upd (upd (ovl env ps) m .undef) n av, upd (ovlT tmps vs) n v, w', upd cs n cd, upd (upd bs m (fun _ => [])) n bd⟩; Keeps c (SS env ps tmps vs w cs bs) s' -> AVRel c s' n av v) :
  RP c env tmps w' (upd (upd ps m .undef) n av) (upd vs n v) := by
 have hno : ∀ r, (∀ q ∈ (ovl env ps r).refs, q.1 ≠ n /\ q.1 ≠ m) /\ (∀ q ∈ (ovl env ps r).ptrs, q ≠ n /\ q ≠ m) := fun r =>
  ⟨fun q hq => by have := (h2 r).1 q hq; omega, fun q hq => by have := (h2 r).2 q hq; omega⟩
 have h3 := h1.reform hno hb hh av v cd bd k1 k2 k3 k4
 have e : upd (upd (ovl env ps) m .undef) n av = ovl env (upd (upd ps m .undef) n av) := by rw [Yf hn, Yf hm]
 refine ⟨hl, _, _, Rel.congr h3 e (Y1a (hl ▸ hn) v).symm, fun r => ?_⟩
 rw [<- e]
 simp only [upd]
 split
 ·rw [hrf.1, hrf.2]; exact ⟨by simp, by simp⟩
 ·split
  ·exact ⟨by simp [AV.refs], by simp [AV.ptrs]⟩
  ·exact h2 r
section
variable {P : Program} {w : World} {c : Cx} {T : Tab} {env : Env}
theorem RP.appended (hT : TabOk P T) {tmps : Array Value} {ps : Nat -> AV} {vs : Nat -> Value} (h : RP c env tmps w ps vs) {t : TypeId} {te : TE} (ht : elemAt T t = some te) (ty : TypeId) {n m : Nat} (hn : env.length <= n) (hm : env.length <= m) {ss xs : List te.ty.D} {lv lx lvR : Lvl} {xv : Value}
  (hpn : ps n = .con .val [⟨.slice te.id te.ty, ss, .at_ lv⟩]) (hlv : lv ≠ .ro)
  (hx : (te.ty.flatB = true /\ m = n /\ ∃ S, Rep S w (.slice te.id te.ty) .ro [xv] xs []) \/ (m ≠ n /\ ps m = .con .val [⟨.slice te.id te.ty, xs, .at_ lx⟩] /\ vs m = xv))
  (hR0 : lvR = .sh \/ lvR = .dp) (hdp : lvR = .dp -> lv = .dp /\ (te.ty.flatB = true \/ lx = .dp)) (hbd : (ss.length + xs.length) * te.bytes <= 140737488355328) :
  ∃ v' w', (Builtin.append_ #[t, t] ty #[vs n, xv]).run P w = .ok v' w' /\ RP c env tmps w' (upd (upd ps m .undef) n (.con .val [⟨.slice te.id te.ty, ss ++ xs, .at_ lvR⟩])) (upd vs n v') := by
 have hR : lvR ≠ .ro := by rcases hR0 with rfl | rfl <;> decide
 obtain ⟨hty, hund, _, hsz, hby, i0, hi0, hi1, hi2, hi3⟩ := TabOk.elem hT ht
 obtain ⟨hlen, cs, bs, hr, hno⟩ := h
 have h : RP c env tmps w ps vs := ⟨hlen, cs, bs, hr, hno⟩
 -- the row itself
 have hsn := Y4f hlen hr hn hpn
 obtain ⟨⟨v, cls, b0s, b1s, ev, ebs, hels, hrow⟩, hbn0, hcn⟩ := hsn
 have ev : vs n = v := by simpa using ev
 have hrow : b0s = v.ownBlock.toList /\ w.ownsRow 0 te.id te.ty.sz v ss.length cls := by cases lv with | ro => exact absurd rfl hlv | sh => exact hrow | dp => exact hrow | pn _ => exact hrow
 obtain ⟨hb0s, hown⟩ := hrow
 -- what is appended
 have hxr : ∃ (S : Nat -> Prop) (bx : List Nat) (clx : List Value) (b1x : List Nat) (A : Option Addr) (cp : Nat), xv = .slice A xs.length cp /\ (A = none -> cp = 0) /\ xs.length <= cp /\ (∀ (j : Nat) (u : Value), clx[j]? = some u -> ∃ a, A = some a /\ w.cell? (a.add j) = some u) /\ clx.length = xs.length * te.ty.sz /\ (∀ u ∈ clx, u.oneCell' = true) /\
   ((te.ty.flatB = true /\ b1x = [] /\ El (Rep S w te.ty .ro) te.ty.sz clx xs []) \/ (m ≠ n /\ (∀ b ∈ b1x, b ∈ bs m 1) /\ b1x.Nodup /\ El (Rep (RoS c (SS env ps tmps vs w cs bs)) w te.ty lx.sub) te.ty.sz clx xs b1x)) := by
  rcases hx with ⟨hf, rfl, S, hrep⟩ | ⟨hmn, hpm, hvm⟩
  ·obtain ⟨u, clx, b0, b1, e1, e2, hel, hrw⟩ := hrep
   have e1 : xv = u := by simpa using e1
   subst e1
   obtain ⟨rfl, rfl⟩ := List.append_eq_nil_iff.1 e2.symm
   obtain ⟨_, A, cp, e3, hl, hz, hc⟩ := hrw
   exact ⟨S, [], clx, [], A, cp, e3, hz, hl, fun j u hu => let ⟨a, h1, _, h2⟩ := hc j u hu; ⟨a, h1, h2⟩, hel.len, hel.all (fun c x b h => Rep.one h), .inl ⟨hf, rfl, hel⟩⟩
  ·obtain ⟨hrep, _, _⟩ := Y4f hlen hr hm hpm
   rw [hvm] at hrep
   have hro := Rep.ro hrep
   obtain ⟨u, clx, b0, b1, e1, e2, hel, hrw⟩ := hrep
   obtain ⟨u', clx', b0', b1', e1', e2', hel', hrw'⟩ := hro
   have e1 : xv = u := by simpa using e1
   subst e1
   have hnd := hr.nodup m 1
   have e2 : bs m 1 = b0 ++ b1 := e2
   have hnd : (bs m 1).Nodup := hnd
   rw [e2] at hnd
   have hcells : ∃ A cp, xv = .slice A xs.length cp /\ (A = none -> cp = 0) /\ xs.length <= cp /\ ∀ (j : Nat) (u : Value), clx[j]? = some u -> ∃ a, A = some a /\ w.cell? (a.add j) = some u := by
    cases lx with
    | ro => obtain ⟨_, A, cp, e3, hl, hz, hc⟩ := hrw; exact ⟨A, cp, e3, hz, hl, fun j u hu => let ⟨a, h1, _, h2⟩ := hc j u hu; ⟨a, h1, h2⟩⟩
    | sh => obtain ⟨A, cp, e3, hl, hz, hc⟩ := Y2e hrw.2; exact ⟨A, cp, e3, hz, hl, fun j u hu => let ⟨a, h1, _, h2⟩ := hc j u hu; ⟨a, h1, h2⟩⟩
    | dp => obtain ⟨A, cp, e3, hl, hz, hc⟩ := Y2e hrw.2; exact ⟨A, cp, e3, hz, hl, fun j u hu => let ⟨a, h1, _, h2⟩ := hc j u hu; ⟨a, h1, h2⟩⟩
    | pn _ => obtain ⟨A, cp, e3, hl, hz, hc⟩ := Y2e hrw.2; exact ⟨A, cp, e3, hz, hl, fun j u hu => let ⟨a, h1, _, h2⟩ := hc j u hu; ⟨a, h1, h2⟩⟩
   obtain ⟨A, cp, e3, hz, hl, hc⟩ := hcells
   exact ⟨fun _ => False, bs m 1, clx, b1, A, cp, e3, hz, hl, hc, hel.len, hel.all (fun c x b h => Rep.one h), .inr ⟨hmn, fun b hb => by rw [e2]; exact List.mem_append_right _ hb, (List.nodup_append.1 hnd).2.1, hel⟩⟩
 obtain ⟨S, bx, clx, b1x, A, cp, ex, hz, hxl, hxc, hxlen, hxone, hxel⟩ := hxr
 -- the run
 have hrun : ∃ v' w', (Builtin.append_ #[t, t] ty #[vs n, xv]).run P w = .ok v' w' /\ w'.ownsRow 0 te.id te.ty.sz v' (ss.length + xs.length) (cls ++ clx) /\ w.grownBy w' v.ownBlock /\ (v'.ownBlock = v.ownBlock \/ v'.ownBlock = some w.heap.size) := by
  cases A with
  | some ad =>
   have hz' : (zeroVal te.ty).cells.size = te.ty.sz := by rw [<- Array.length_toList, Y1k, Y18]
   have h63 : ss.length + xs.length <= maxLen := by
    have : (ss.length + xs.length) * 1 <= (ss.length + xs.length) * te.bytes := Nat.mul_le_mul_left _ hby
    simp only [maxLen]
    omega
   obtain ⟨v', w', h1, h2, h3, _, h5⟩ := run_append_own_at (P := P) w 0 t ty te.id i0 (zeroVal te.ty) te.ty.sz te.bytes hund hi0 hi3 hi1 hi2 hz' hsz v ss.length cls hown ad xs.length cp clx hxlen
    (fun j u hu => by obtain ⟨a, h1, h2⟩ := hxc j u hu; cases h1; exact h2) hxone h63 hbd (Nat.zero_le _)
   exact ⟨v', w', by rw [ev, ex]; exact h1, h2, h3, h5⟩
  | none =>
   have hcp := hz rfl
   subst hcp
   have hx0 : xs.length = 0 := by omega
   have hcl : clx = [] := List.length_eq_zero_iff.1 (by rw [hxlen, hx0, Nat.zero_mul])
   refine ⟨v, w, ?_, by rw [hx0, hcl, List.append_nil]; exact hown, ⟨rfl, rfl, rfl, Nat.le_refl _, fun _ _ _ => rfl⟩, .inl rfl⟩
   rw [ev, ex, hx0]
   exact run_append_owned_none (P := P) (w := w) 0 t ty te.id i0 te.ty.sz hund hi0 v ss.length cls hown
 obtain ⟨v', w', hr1, hown', hgrow, hwhere⟩ := hrun
 refine ⟨v', w', hr1, ?_⟩
 -- blocks
 have hndn : (b0s ++ b1s).Nodup := by rw [<- ebs]; exact hr.nodup n 1
 obtain ⟨_, hnd1s, hnd01⟩ := List.nodup_append.1 hndn
 have hmem_s : ∀ b, b ∈ b1s -> b ∈ bs n 1 := fun b hb => by rw [show bs n 1 = b0s ++ b1s from ebs]; exact List.mem_append_right _ hb
 have hmem_v : ∀ b, v.ownBlock = some b -> b ∈ bs n 1 := fun b hb => by rw [show bs n 1 = b0s ++ b1s from ebs, hb0s]; exact List.mem_append_left _ (Yb.2 hb)
 have hsize : w.heap.size <= w'.heap.size := hgrow.size
 have hvs : ∀ b, v'.ownBlock = some b -> b ∉ b1s := by
  intro b hb hm1
  rcases hwhere with hw | hw
  ·rw [hw] at hb
   exact hnd01 b (by rw [hb0s]; exact Yb.2 hb) b hm1 rfl
  ·rw [hw] at hb
   have : b = w.heap.size := by simpa using hb.symm
   have h2 : b < w.heap.size := (hr.own _ _ _ (hmem_s b hm1)).2
   omega
 let b1 : List Nat := if lvR = .dp then b1s ++ b1x else []
 have hb1x : ∀ b ∈ b1x, m ≠ n /\ b ∈ bs m 1 := by
  intro b hb
  rcases hxel with ⟨_, rfl, _⟩ | ⟨hmn, hx2, _⟩
  ·simp at hb
  ·exact ⟨hmn, hx2 b hb⟩
 have hvx : ∀ b, v'.ownBlock = some b -> b ∉ b1x := by
  intro b hb hm1
  obtain ⟨hmn, hbm⟩ := hb1x b hm1
  rcases hwhere with hw | hw
  ·rw [hw] at hb
   exact hmn (hr.disj _ _ _ _ _ hbm (hmem_v b hb)).1
  ·rw [hw] at hb
   have : b = w.heap.size := by simpa using hb.symm
   have h2 : b < w.heap.size := (hr.own _ _ _ hbm).2
   omega
 have hkeepb : ∀ b, b < w.heap.size -> v.ownBlock ≠ some b -> w'.heap[b]? = w.heap[b]? := fun b hb hne => hgrow.block b hb (fun e => hne e.symm)
 have hvb1s : ∀ b ∈ b1s, v.ownBlock ≠ some b := fun b hb e => hnd01 b (by rw [hb0s]; exact Yb.2 e) b hb rfl
 have hvb1x : ∀ b ∈ b1x, v.ownBlock ≠ some b := fun b hb e => (hb1x b hb).1 (hr.disj _ _ _ _ _ (hb1x b hb).2 (hmem_v b e)).1
 have hfresh : ∀ b, w.heap.size <= b -> ∀ r l, b ∉ bs r l := fun b hb r l hm' => by have : b < w.heap.size := (hr.own _ _ _ hm').2; omega
 have hb1s_own : ∀ b ∈ b1s, c.mine b /\ b < w.heap.size := fun b hb => hr.own _ _ _ (hmem_s b hb)
 have hb1x_own : ∀ b ∈ b1x, c.mine b /\ b < w.heap.size := fun b hb => hr.own _ _ _ (hb1x b hb).2
 have hsx : ∀ b ∈ b1s, b ∉ b1x := fun b h1 h2 => (hb1x b h2).1 (hr.disj _ _ _ _ _ (hb1x b h2).2 (hmem_s b h1)).1
 have hxnd : b1x.Nodup := by
  rcases hxel with ⟨_, rfl, _⟩ | ⟨_, _, h3, _⟩
  ·exact List.nodup_nil
  ·exact h3
 have hmem1 : ∀ b ∈ b1, b ∈ b1s \/ b ∈ b1x := fun b hb => by
  simp only [b1] at hb
  split at hb
  ·exact List.mem_append.1 hb
  ·simp at hb
 have hvmem : ∀ b, v'.ownBlock = some b -> b < w'.heap.size := fun b hb => (Y1e hown' b hb).2
 refine RP.reformAt hlen hr hno hn hm ⟨by simp [AV.refs, Leaf.refs], by simp [AV.ptrs]⟩ ?_ ?_ [v'] (fun l => if l = 1 then v'.ownBlock.toList ++ b1 else []) ?_ ?_ ?_ ?_
 ·exact ⟨hgrow.os, hgrow.tape, hgrow.output, hgrow.size, fun k hk => hgrow.block k (by have := hr.base; show k < w.heap.size; exact Nat.lt_of_lt_of_le hk this) (fun e => by
   have := (hr.own _ _ _ (hmem_v k e.symm)).1.1
   omega)⟩
 ·intro b hb hne
  refine hkeepb b hb (fun e => hne 1 (hmem_v b e))
 ·intro l b hb
  by_cases hl : l = 1
  ·subst hl
   rw [if_pos rfl] at hb
   rcases List.mem_append.1 hb with hb | hb
   ·have hb := Yb.1 hb
    refine ⟨hvmem b hb, ?_⟩
    rcases hwhere with hw | hw
    ·exact .inr ⟨1, .inl (hmem_v b (hw ▸ hb))⟩
    ·left; rw [hw] at hb; have : w.heap.size = b := by simpa using hb
     omega
   ·rcases hmem1 b hb with hb | hb
    ·exact ⟨by have := (hb1s_own b hb).2; omega, .inr ⟨1, .inl (hmem_s b hb)⟩⟩
    ·exact ⟨by have := (hb1x_own b hb).2; omega, .inr ⟨1, .inr (hb1x b hb).2⟩⟩
  ·rw [if_neg hl] at hb; simp at hb
 ·intro l l' b hb hb'
  by_cases hl : l = 1
  ·by_cases hl' : l' = 1
   ·rw [hl, hl']
   ·rw [if_neg hl'] at hb'; simp at hb'
  ·rw [if_neg hl] at hb; simp at hb
 ·intro l
  by_cases hl : l = 1
  ·rw [if_pos hl]
   refine List.nodup_append.2 ⟨?_, ?_, ?_⟩
   ·cases v'.ownBlock <;> simp
   ·simp only [b1]
    split
    ·exact List.nodup_append.2 ⟨hnd1s, hxnd, fun a ha b hb e => hsx a ha (e ▸ hb)⟩
    ·exact List.nodup_nil
   ·intro a ha b hb e
    subst e
    have ha := Yb.1 ha
    rcases hmem1 a hb with hb | hb
    ·exact hvs a ha hb
    ·exact hvx a ha hb
  ·rw [if_neg hl]; exact List.nodup_nil
 ·intro s' hk
  have ebs' : s'.bs n = fun l => if l = 1 then v'.ownBlock.toList ++ b1 else [] := Y0 _ _ _
  have ebs1 : s'.bs n 1 = v'.ownBlock.toList ++ b1 := by rw [ebs']; rfl
  have ecs : s'.cs n = [v'] := Y0 _ _ _
  have hother : ∀ r, r ≠ n -> ∀ l b, b ∈ s'.bs r l -> r ≠ m /\ b ∈ bs r l := by
   intro r hrn l b hb
   have e : s'.bs r = upd bs m (fun _ => []) r := Y3 _ _ hrn
   rw [e] at hb
   by_cases hrm : r = m
   ·subst hrm; rw [Y0] at hb; simp at hb
   ·rw [Y3 _ _ hrm] at hb; exact ⟨hrm, hb⟩
  have hRoS : ∀ b, RoS c (SS env ps tmps vs w cs bs) b -> b < w.heap.size -> RoS c s' b /\ w'.heap[b]? = w.heap[b]? := hk
  -- when the elements are no longer owned, they may be read
  have hfree : lvR ≠ .dp -> ∀ b, b ∈ b1s \/ b ∈ b1x -> RoS c s' b := by
   intro hnd' b hb
   refine ⟨fun r l hmem => ?_, .inr (hb.elim (fun h => (hb1s_own b h).1) (fun h => (hb1x_own b h).1))⟩
   by_cases hrn : r = n
   ·subst hrn
    rw [ebs'] at hmem
    by_cases hl : l = 1
    ·simp only [if_pos hl] at hmem
     have hb1 : b1 = [] := if_neg hnd'
     rw [hb1, List.append_nil] at hmem
     have := Yb.1 hmem
     rcases hb with hb | hb
     ·exact hvs b this hb
     ·exact hvx b this hb
    ·simp only [if_neg hl] at hmem; simp at hmem
   ·obtain ⟨hrm, hmem⟩ := hother r hrn l b hmem
    rcases hb with hb | hb
    ·exact hrn (hr.disj _ _ _ _ _ hmem (hmem_s b hb)).1
    ·exact hrm (hr.disj _ _ _ _ _ hmem (hb1x b hb).2).1
  refine ⟨⟨ecs, by rw [ebs']; rfl⟩, by rw [ecs]; rfl, fun l hl => ?_, ?_⟩
  ·rw [ebs']
   simp only [List.length_singleton] at hl
   exact if_neg (by omega)
  ·intro l lf u hl hu
   rw [ecs] at hu
   have hl0 : l = 0 := by
    rw [Y1] at hl
    have := (List.getElem?_eq_some_iff.1 hl).1
    simpa using this
   subst hl0
   obtain rfl : lf = ⟨.slice te.id te.ty, ss ++ xs, .at_ lvR⟩ := by simpa [leafAt] using hl.symm
   obtain rfl : u = v' := by simpa using hu.symm
   have goal : Rep (RoS c s') w' (.slice te.id te.ty) lvR [u] (ss ++ xs) (s'.bs n 1) := by
    have hrow' : ∀ (L : Lvl), L ≠ .ro -> RowRep (RoS c s') w' te.id te.ty.sz L u (ss ++ xs).length (cls ++ clx) u.ownBlock.toList := by
     intro L hL
     rw [List.length_append]
     cases L with
     | ro => exact absurd rfl hL
     | sh => exact ⟨rfl, hown'⟩
     | dp => exact ⟨rfl, hown'⟩
     | pn _ => exact ⟨rfl, hown'⟩
    refine ⟨u, cls ++ clx, u.ownBlock.toList, b1, rfl, ebs1, ?_, hrow' lvR hR⟩
    by_cases hd : lvR = .dp
    ·have hb1 : b1 = b1s ++ b1x := if_pos hd
     obtain ⟨hlvd, hxd⟩ := hdp hd
     rw [hb1, hd]
     refine El.append ?_ ?_
     ·rw [hlvd] at hels
      exact El.imp (fun c' x' b' hb' h' => Rep.dpS (S := RoS c (SS env ps tmps vs w cs bs)) (Rep.move (fun _ _ _ => by contradiction) (fun b hb => hkeepb b (hb1s_own b (hb' b hb)).2 (hvb1s b (hb' b hb))) (Rep.dpS (S' := fun _ => False) h'))) hels
     ·rcases hxel with ⟨hf, hbx, hel⟩ | ⟨hmn, hbx, _, hel⟩
      ·rw [hbx]
       refine El.bare ?_ hel; intro _ _ _ h'; exact (Rep.flat hf h').2
      ·rcases hxd with hf | hlx
       ·have : b1x = [] := El.noB (fun c' x' b' h' => (Rep.flat (S' := fun _ => False) (w' := w) (m' := .ro) hf h').1) hel
        rw [this]
        refine El.bare ?_ hel; intro _ _ _ h'; exact (Rep.flat hf h').2
       ·rw [hlx] at hel
        exact El.imp (fun c' x' b' hb' h' => Rep.dpS (S := RoS c (SS env ps tmps vs w cs bs)) (Rep.move (fun _ _ _ => by contradiction) (fun b hb => hkeepb b (hb1x_own b (hb' b hb)).2 (hvb1x b (hb' b hb))) (Rep.dpS (S' := fun _ => False) h'))) hel
    ·have hb1 : b1 = [] := if_neg hd
     have hsub : lvR.sub = .ro := by rcases hR0 with rfl | rfl; rfl; exact absurd rfl hd
     rw [hb1, hsub]
     have conv : ∀ {L : Lvl} {cl : List Value} {l : List te.ty.D} {B : List Nat}, (∀ b ∈ B, (b ∈ b1s \/ b ∈ b1x) /\ b < w.heap.size /\ v.ownBlock ≠ some b) -> El (Rep (RoS c (SS env ps tmps vs w cs bs)) w te.ty L) te.ty.sz cl l B -> El (Rep (RoS c s') w' te.ty .ro) te.ty.sz cl l [] := by
      intro L cl l B hB hel
      refine El.bareW (bs := B) (fun c' x' b' hb' h' => ?_) (fun k hk => hk) hel
      refine Rep.move (S := fun b => RoS c (SS env ps tmps vs w cs bs) b \/ b ∈ b') (fun b hb hlt => ?_) (by simp) h'.ro
      rcases hb with hb | hb
      ·exact hRoS b hb hlt
      ·obtain ⟨k1, k2, k3⟩ := hB b (hb' b hb)
       exact ⟨hfree hd b k1, hkeepb b k2 k3⟩
     refine El.append (bs := []) (bs' := []) (conv (fun b hb => ⟨.inl hb, (hb1s_own b hb).2, hvb1s b hb⟩) hels) ?_
     rcases hxel with ⟨hf, hbx, hel⟩ | ⟨hmn, hbx, _, hel⟩
     ·refine El.bare ?_ hel; intro _ _ _ h'; exact (Rep.flat hf h').2
     ·exact conv (fun b hb => ⟨.inr hb, (hb1x_own b hb).2, hvb1x b hb⟩) hel
   rcases hR0 with rfl | rfl
   ·exact LeafRel.of_rep trivial goal
   ·exact LeafRel.of_rep trivial goal
end
end Go.FP
