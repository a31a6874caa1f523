/- How Go values lie in memory, and an evaluator of code with its soundness (part 6 of 7). Conditions: those that stand in each theorem; nothing is assumed of any program. -/
import Derived.Test.YtdnmcmhnikjphaaGreatFpE
import Derived.KernelRfl
import Derived.ProofKit
import Derived.ChangeOld
import Derived.WideShapes
import Derived.ChangeMaps5

set_option linter.unusedVariables false
set_option linter.unusedSimpArgs false
set_option linter.unnecessarySimpa false

namespace Go.FP
open Go.RowKit
variable {R : Type} {P : Program} {T : Tab} {w : World} {env : Env} {Q : Exit -> Act -> World -> Prop} {caps : FuncId -> List Ty} {ls : List Leaf} {x : Operand} {t : Ty} {o : Oper} {a : Act} {v : Value} {d : Nat} {f : FuncId} {e : TypeId} {ann : Nat -> Option (List Nat)} {n : Nat} {k : Kind} {sg : Sig} {lv : Lvl} {τ : Ty} {fuel : Nat} {id : TypeId} {fn : Func} {code : Code}
def Mode.isRo : Mode -> Bool
 | .at_ .ro => true
 | _ => false
def inert (env : Env) : Operand -> Bool
 | .tmp s => match get env s with
  | .con k ls => k.plain && ls.all (fun l => l.m.isRo)
  | .undef => false
  | .grow _ _ _ _ _ => false
  | .sel _ _ _ _ _ _ _ => false
  | .part _ _ _ _ => false
  | .eown _ => false
  | .junk => false
  | _ => true
 | _ => true
theorem Y39 {m : Mode} (h : m.isRo = true) : m = .at_ .ro := by
 cases m with
 | at_ lv => cases lv <;> simp [Mode.isRo] at h ⊢
 | _ => simp [Mode.isRo] at h
theorem Y5t : ∀ {ls : List Leaf} {env : Env}, ls.all (fun l => l.m.isRo) = true -> freezeAll ls env = env
 | [], env, _ => rfl
 | l :: ls, env, h => by
  simp only [List.all_cons, X9] at h;have hm := Y39 h.1;unfold freezeAll;rw [hm];exact Y5t h.2
theorem Yev {s q : Nat} (hg : get env s = .con k ls) (hl : ls.all (fun l => l.m.isRo) = true) : pull s q env = env := by
 unfold pull;rw [hg];split
 ·rename_i t x r j hq;have := Y39 (Xa.1 hl _ (Yb hq));simp at this
 ·rfl
theorem Yad {s : Nat} (hg : get env s = .con k ls) (hl : ls.all (fun l => l.m.isRo) = true) : ∀ n, pulls s n env = env
 | 0 => rfl
 | n + 1 => by rw [pulls, Yad hg hl n, Yev hg hl]
theorem Yci {s : Nat} (hg : get env s = .con k ls) (hl : ls.all (fun l => l.m.isRo) = true) : pullAll (.tmp s) env = env := by
 simp only [pullAll, hg];split
 ·exact Yad hg hl _
 ·rfl
theorem Y57 {ty : Option Ty} {s : Nat} (hg : get env s = .con k ls) (hk : k.plain = true) (hl : ls.all (fun l => l.m.isRo) = true) : takeIn ty env (.tmp s) = some (env, .con k ls) := by
 rw [takeIn, Yci hg hl];simp only [takeIn0, hg, hk, X1p, Y5t hl];have h1 : ls.all (fun l => l.m.settled) = true := Xa.2 fun l hl' => by rw [Y39 (Xa.1 hl l hl')]; rfl
 have h2 : ls.any (fun l => l.m.own) = false := by
  cases ha : ls.any (fun l => l.m.own) with
  | false => rfl
  | true =>
   obtain ⟨l, hl', ho⟩ := X1n.1 ha;rw [Y39 (Xa.1 hl l hl')] at ho;simp [Mode.own] at ho
 rw [X4 (by grind), h2];rfl
theorem Y19 {env env2 : Env} (h : inert env x = true) (ha : Agree (opReads env x) env env2) (ty : Option Ty) : ∃ av, takeIn ty env x = some (env, av) /\ takeIn ty env2 x = some (env2, av) /\ inert env2 x = true := by
 cases x with
 | tmp s =>
  have hg2 := ha.2 s (by simp [opReads]);cases hg : get env s with
  | con k ls =>
   simp only [inert, hg, X9] at h;rw [hg] at hg2;exact ⟨_, Y57 hg h.1 h.2, Y57 hg2 h.1 h.2, by simp only [inert, hg2, X9]; exact h⟩
  | undef => simp [inert, hg] at h
  | grow _ _ _ _ _ => simp [inert, hg] at h
  | sel _ _ _ _ _ _ _ => simp [inert, hg] at h
  | part _ _ _ _ => simp [inert, hg] at h
  | eown _ => simp [inert, hg] at h
  | junk => simp [inert, hg] at h
  | skip => rw [hg] at hg2; exact ⟨.skip, by simp only [takeIn, pullAll, takeIn0, hg], by simp only [takeIn, pullAll, takeIn0, hg2], by simp only [inert, hg2]⟩
  | path r off => rw [hg] at hg2; exact ⟨.path r off, by simp only [takeIn, pullAll, takeIn0, hg], by simp only [takeIn, pullAll, takeIn0, hg2], by simp only [inert, hg2]⟩
  | eptr ls wr => rw [hg] at hg2; exact ⟨.eptr ls wr, by simp only [takeIn, pullAll, takeIn0, hg], by simp only [takeIn, pullAll, takeIn0, hg2], by simp only [inert, hg2]⟩
  | fptr f caps => rw [hg] at hg2; exact ⟨.fptr f caps, by simp only [takeIn, pullAll, takeIn0, hg], by simp only [takeIn, pullAll, takeIn0, hg2], by simp only [inert, hg2]⟩
  | cloS f caps => rw [hg] at hg2; exact ⟨.cloS f caps, by simp only [takeIn, pullAll, takeIn0, hg], by simp only [takeIn, pullAll, takeIn0, hg2], by simp only [inert, hg2]⟩
  | cloR f caps => rw [hg] at hg2; exact ⟨.cloR f caps, by simp only [takeIn, pullAll, takeIn0, hg], by simp only [takeIn, pullAll, takeIn0, hg2], by simp only [inert, hg2]⟩
  | clo f caps => rw [hg] at hg2; exact ⟨.clo f caps, by simp only [takeIn, pullAll, takeIn0, hg], by simp only [takeIn, pullAll, takeIn0, hg2], by simp only [inert, hg2]⟩
 | const v => exact ⟨_, rfl, rfl, rfl⟩
 | func f => exact ⟨_, rfl, rfl, rfl⟩
 | global g => exact ⟨_, rfl, rfl, rfl⟩
theorem Y1t {env env1 env2 : Env} (h : inert env x = true) (ha : Agree (opReads env x) env env2) (ht : takeAs τ env x = some (env1, ls)) : env1 = env /\ takeAs τ env2 x = some (env2, ls) /\ inert env2 x = true := by
 obtain ⟨av, h1, h2, h3⟩ := Y19 h ha (some τ);unfold takeAs at ht ⊢;rw [h1] at ht;rw [h2];split at ht
 ·grind
 ·simp at ht
theorem Y2t {env2 : Env} : ∀ {parts : List (Nat × Operand)} {env env' : Env} {n : Nat} {xs : List t.D} {dp : Bool}, (∀ p ∈ parts, inert env p.2 = true) -> (∀ p ∈ parts, Agree (opReads env p.2) env env2) -> elemParts t env n parts = some (env', xs, dp) -> env' = env /\ elemParts t env2 n parts = some (env2, xs, dp)
 | [], env, env', n, xs, dp, _, _, h => by
  simp only [elemParts, X0, X11] at h ⊢;exact ⟨h.1.symm, trivial, h.2⟩
 | (i, x) :: parts, env, env', n, xs, dp, hi, ha, h => by
  simp only [elemParts] at h ⊢;split at h
  ·rename_i hin;rw [X4 hin];cases hta : takeAs t env x with
   | none => rw [hta] at h; simp at h
   | some q =>
    obtain ⟨env1, l⟩ := q;obtain ⟨e1, k2, _⟩ := Y1t (hi _ Xo) (ha _ Xo) hta;subst e1;rw [hta] at h;rw [k2];simp only at h ⊢;split at h
    ·rename_i v hv;split at h
     ·rename_i e2 vs d hrec;obtain ⟨rfl, k3⟩ := Y2t (fun p hp => hi p (X3 _ hp)) (fun p hp => ha p (X3 _ hp)) hrec;rw [k3];simp only [X0, X11] at h ⊢;exact ⟨h.1.symm, trivial, h.2⟩
     ·simp at h
    ·simp at h
  ·simp at h
theorem Y2n {t : TypeId} {env2 : Env} : ∀ {parts : List (Nat × Operand)} {env env' : Env} {ls ls' : List Leaf}, (∀ p ∈ parts, inert env p.2 = true) -> (∀ p ∈ parts, Agree (opReads env p.2) env env2) -> buildParts T t env ls parts = some (env', ls') -> env' = env /\ buildParts T t env2 ls parts = some (env2, ls')
 | [], env, env', ls, ls', _, _, h => by
  simp only [buildParts, X0, X11] at h ⊢;exact ⟨h.1.symm, trivial, h.2⟩
 | (f, x) :: parts, env, env', ls, ls', hi, ha, h => by
  simp [buildParts] at h ⊢;split at h
  ·rename_i off τ hf;cases hta : takeAs τ env x with
   | none => rw [hta] at h; simp at h
   | some q =>
    obtain ⟨env1, l⟩ := q;obtain ⟨e1, k2, _⟩ := Y1t (hi _ Xo) (ha _ Xo) hta;subst e1;rw [hta] at h;rw [k2];simp only at h ⊢;split at h
    ·rename_i hle;rw [X4 hle];exact Y2n (fun p hp => hi p (X3 _ hp)) (fun p hp => ha p (X3 _ hp)) h
    ·simp at h
  ·simp at h
theorem Ye9 (ty : Option Ty) (env : Env) (x : Operand) : ∀ q ∈ rootsOf (rd ty env x), q ∈ opReads env x := by
 have typed : ∀ ty v, rootsOf (constAV ty v) = [] := by
  intro ty v;unfold constAV;split
  ·rfl
  ·split
   ·split <;> rfl
   ·rfl
 cases x with
 | tmp s =>
  intro q hq;simp [rd] at hq;cases hg : get env s with
  | con k ls => rw [hg] at hq; cases k <;> simp [rootsOf] at hq ⊢ <;> simp [opReads, hq]
  | path r off => rw [hg] at hq; simp [rootsOf] at hq; simp [opReads, hg, rootsOf, hq]
  | clo f cs => rw [hg] at hq; simp only [opReads, hg]; exact X3 _ hq
  | _ => rw [hg] at hq; simp [rootsOf] at hq
 | const v =>
  intro q hq;simp [rd] at hq;split at hq <;> first | (simp [rootsOf] at hq; done) | (rw [typed] at hq; simp at hq)
 | func f => intro q hq; simp [rd, rootsOf] at hq
 | global g => intro q hq; simp [rd, rootsOf] at hq
theorem Y5u {env env2 : Env} : ∀ {cs : List (Nat × Nat)} {ts : List Ty}, (∀ p ∈ cs, get env2 p.1 = get env p.1) -> capsOf env2 cs ts = capsOf env cs ts
 | [], [], _ => rfl
 | [], t :: ts, _ => rfl
 | p :: cs, [], _ => rfl
 | (q, off) :: cs, t :: ts, h => by
  have h1 := h (q, off) Xo;simp only [capsOf, Y5u (ts := ts) (fun p hp => h p (X3 _ hp))];have : ptrOf env2 t q off = ptrOf env t q off := by
   unfold ptrOf;have h1 : get env2 q = get env q := h1;rw [h1]
  rw [this]
theorem Y5v {caps : FuncId -> List Ty} {env env2 : Env} : ∀ {ps : List PTy} {vs : List AV}, (∀ v ∈ vs, ∀ q ∈ rootsOf v, get env2 q = get env q) -> RVs caps env2 ps vs = RVs caps env ps vs
 | [], [], _ => rfl
 | [], v :: vs, _ => rfl
 | p :: ps, [], _ => rfl
 | p :: ps, v :: vs, h => by
  have h1 := h v Xo;have : RVof caps env2 p v = RVof caps env p v := by
   unfold RVof;split
   ·rfl
   ·rename_i t q off;have h2 : get env2 q = get env q := h1 q (by simp [rootsOf]);unfold ptrOf;rw [h2]
   ·rfl
   ·rfl
   ·rename_i f cs;rw [Y5u (fun p hp => h1 p.1 (by simp only [rootsOf]; exact X19.2 ⟨p, hp, rfl⟩))]
   ·rfl
  simp only [RVs, this, Y5v (ps := ps) (fun v hv => h v (X3 _ hv))]
theorem Y2u {env env2 : Env} : ∀ {ps : List PTy} {xs : List Operand}, (∀ x ∈ xs, Agree (opReads env x) env env2) -> rdArgs env2 ps xs = rdArgs env ps xs
 | [], xs, _ => by cases xs <;> rfl
 | p :: ps, [], _ => rfl
 | p :: ps, x :: xs, h => by
  simp only [rdArgs];rw [(h x Xo).rd, Y2u (fun y hy => h y (X3 _ hy))]
theorem Y48 : ∀ {ps : List PTy} {xs : List Operand}, ∀ v ∈ rdArgs env ps xs, ∀ q ∈ rootsOf v, ∃ x ∈ xs, q ∈ opReads env x
 | [], xs, v, hv => by cases xs <;> simp [rdArgs] at hv
 | p :: ps, [], v, hv => by simp [rdArgs] at hv
 | p :: ps, x :: xs, v, hv => by
  simp [rdArgs] at hv;intro q hq;rcases hv with rfl | hv
  ·exact ⟨x, Xo, Ye9 _ _ _ q hq⟩
  ·obtain ⟨y, hy, h⟩ := Y48 v hv q hq;exact ⟨y, X3 _ hy, h⟩
section
variable {T : Tab} {sig : FuncId -> Option Sig} {caps : FuncId -> List Ty} {orc : Orc}
def freshSig (sig : FuncId -> Option Sig) (f : FuncId) : Bool := match sig f with
 | some sg => (sg.box.isNone && sg.newb.isNone) && (!sg.muts && (!sg.own && allFresh sg.results))
 | none => false
theorem Y6p {args : List Operand} {extra : List AV} {env e1 env2 : Env} (hf : freshSig sig f = true) (hq : (get env d).quiet = true) (h : call1 sig caps orc (some d) f args extra env some = some e1) :
  ∃ v, e1 = put env d v /\ ∀ env2, (∀ x ∈ args, Agree (opReads env x) env env2) -> (∀ v ∈ extra, ∀ q ∈ rootsOf v, get env2 q = get env q) -> (get env2 d).quiet = true -> call1 sig caps orc (some d) f args extra env2 some = some (put env2 d v) := by
 unfold call1 at h;split at h
 ·simp at h
 ·rename_i sg hsg;have hmf0 : (sg.box = none /\ sg.newb = none) /\ sg.muts = false /\ sg.own = false /\ allFresh sg.results = true := by simpa [freshSig, hsg] using hf
  obtain ⟨hbx, hmf⟩ := hmf0;have haf := hmf.2.2;simp [hbx.1, hbx.2] at h;split at h
  ·rename_i hm;rw [X2 (by grind)] at h;split at h
   ·rename_i hc;split at h
    ·simp at h
    ·rename_i rvs hrv;split at h
     ·simp at h
     rename_i q hq';obtain ⟨xs, hxs, h⟩ := Xr.1 h;split at h
     ·simp at h
     ·rename_i v hv;simp at h;rw [Y3 hq] at h;refine ⟨v, h.symm, fun env2 ha he hq2 => ?_⟩;have hrd := Y2u (ps := sg.params) ha;have hrv2 : RVs caps env2 sg.params (rdArgs env sg.params args ++ extra) = some rvs := by
       rw [Y5v, hrv];intro v hv q hq;rcases X5.1 hv with hv | hv
       ·obtain ⟨x, hx, hqx⟩ := Y48 v hv q hq;exact (ha x hx).2 q hqx
       ·exact he v hv q hq
      unfold call1;rw [hsg];simp [hbx.1, hbx.2, hm, hrd];rw [X2 (by grind)];rw [X4 hc, hrv2];simp [hq', hxs, hv];rw [X4 haf, Y3 hq2]
   ·simp at h
  ·grind
end
def allReads (env : Env) (xs : List Operand) : List Nat := xs.flatMap (opReads env)
def footVal (sig : FuncId -> Option Sig) (env : Env) (d : Nat) (o : Oper) : Foot1 :=
 if (get env d).quiet then
  match pureReads env o.op with
  | some Rd => some (d, Rd)
  | none => match o.op with
   | .assign x => if inert env x then some (d, opReads env x) else none
   | .box _ x => if inert env x then some (d, opReads env x) else none
   | .build _ ps => if ps.toList.all (fun p => inert env p.2) then some (d, allReads env (ps.toList.map (·.2))) else none
   | .buildSlice _ _ ps => if ps.toList.all (fun p => inert env p.2) then some (d, allReads env (ps.toList.map (·.2))) else none
   | .slice _ x lo hi _ => if inert env x then some (d, opReads env x ++ allReads env (lo.toList ++ hi.toList)) else none
   | .extract x _ => match x with
    | .tmp s => match get env s with
     | .con (.tup _) ls => if ls.all (fun l => !l.m.own) then some (d, [s]) else none
     | _ => none
    | _ => none
   | .call c => match c.callee with
    | .value (.func f) => if freshSig sig f then some (d, allReads env c.args.toList) else none
    | .value (.tmp t) => match get env t with
     | .clo f _ => if freshSig sig f then some (d, opReads env (.tmp t) ++ allReads env c.args.toList) else none
     | _ => none
    | .builtin .len => some (d, allReads env c.args.toList)
    | .builtin .max => some (d, allReads env c.args.toList)
    | .builtin .min => some (d, allReads env c.args.toList)
    | _ => none
   | _ => none
 else none
theorem Ym {env env2 : Env} : ∀ {xs : List Operand}, Agree (allReads env xs) env env2 -> (∀ x ∈ xs, Agree (opReads env x) env env2) /\ allReads env2 xs = allReads env xs
 | [], _ => ⟨by simp, rfl⟩
 | x :: xs, h => by
  have h1 := h.mono (S' := opReads env x) (fun k hk => by simp only [allReads, X1t]; exact Xc _ hk);have h2 := h.mono (S' := allReads env xs) (fun k hk => by simp only [allReads, X1t]; exact Xe _ hk);obtain ⟨k1, k2⟩ := Ym h2;refine ⟨fun y hy => ?_, ?_⟩
  ·grind
  ·simp [allReads] at k2 ⊢;rw [h1.reads, k2]
theorem Y58 (h : inert env x = true) : nestB env x = false := by
 cases x with
 | tmp s =>
  cases hg : get env s with
  | con k ls =>
   simp only [inert, hg, X9] at h;have : (ls.any fun l => l.m.nested) = false := by
    rw [X2e];intro l hl;rw [Y39 (Xa.1 h.2 l hl)];simp [Mode.nested]
   cases k with
   | box e => simp [Kind.plain] at h
   | _ => simp [nestB, hg, this]
  | _ => simp [nestB, hg]
 | _ => rfl
theorem Y5w {env env2 : Env} : ∀ {lo : Option Operand}, (∀ x ∈ lo.toList, Agree (opReads env x) env env2) -> optInt env2 lo = optInt env lo
 | none, _ => rfl
 | some x, h => by simp [optInt]; rw [(h x (by simp)).rd]
theorem Y5x {ty : Option Ty} {lx : Leaf} (h : inert env x = true) (hx : rd ty env x = .con .val [lx]) (e : Env) : freezeAll [lx] e = e := by
 have hm : lx.m.settled = true := by
  cases x with
  | tmp s =>
   cases hg : get env s with
   | con k ls =>
    simp only [inert, hg, X9] at h;cases k with
    | val =>
     simp only [rd, hg, AV.con.injEq, true_and] at hx;cases ls with
     | nil => simp [borrowFrom] at hx
     | cons l ls =>
      simp only [borrowFrom, X2o] at hx;have hl : l.m.isRo = true := Xa.1 h.2 l (by simp);rw [Y39 hl] at hx;simp only [Mode.own, Xl, X18] at hx;rw [<- hx.1, Y39 hl];rfl
    | agg => simp [rd, hg] at hx
    | tup sh => simp [rd, hg] at hx
    | box e => simp [rd, hg] at hx
    | tupB i n sh => simp [rd, hg] at hx
   | _ => simp [rd, hg] at hx
  | const v => exact Yx (ty := ty) (env := env) (env' := env) (x := .const v) (k := .val) (ls := [lx]) (by rw [<- hx]; rfl) lx (by simp)
  | func f => simp [rd] at hx
  | global g => simp [rd] at hx
 simp only [freezeAll];split
 ·rename_i hb; rw [hb] at hm; simp [Mode.settled] at hm
 ·rfl
section
variable {T : Tab} {sig : FuncId -> Option Sig} {caps : FuncId -> List Ty} {orc : Orc}
theorem Yae {d t : Nat} {env e1 : Env} {Rd : List Nat} (hf : footVal sig env d o = some (t, Rd)) (h : evVal T sig caps orc d o env some = some e1) :
  t = d /\ ∃ v, e1 = put env d v /\ ∀ env2, Agree (d :: Rd) env env2 -> evVal T sig caps orc d o env2 some = some (put env2 d v) /\ footVal sig env2 d o = some (d, Rd) := by
 unfold footVal at hf;split at hf
 ·rename_i hq;have quiet2 : ∀ {env2 : Env} {S : List Nat}, Agree (d :: S) env env2 -> (get env2 d).quiet = true := fun ha => by rw [ha.2 d Xo]; exact hq
  have tail : ∀ {env2 : Env} {S : List Nat}, Agree (d :: S) env env2 -> Agree S env env2 := fun ha => ha.mono (fun k hk => X3 _ hk);cases hp : pureReads env o.op with
  | some Rd0 =>
   rw [hp] at hf;simp at hf;obtain ⟨rfl, rfl⟩ := hf;obtain ⟨v, e, k⟩ := Yd7 hp hq h;refine ⟨rfl, v, e, fun env2 ha => ?_⟩;obtain ⟨k1, k2⟩ := k env2 (tail ha) (quiet2 ha);exact ⟨k1, by unfold footVal; rw [X4 (quiet2 ha), k2]⟩
  | none =>
   rw [hp] at hf;simp only at hf;have none2 : ∀ env2 : Env, pureReads env2 o.op = none := by
    intro env2;cases hop : o.op <;> rw [hop] at hp <;> simp [pureReads] at hp ⊢
   cases hop : o.op with
   | assign x =>
    rw [hop] at hf;simp only at hf;split at hf
    ·rename_i hi;simp at hf;obtain ⟨rfl, rfl⟩ := hf;simp [evVal, hop] at h;obtain ⟨av, k1, _, _⟩ := Y19 hi (env2 := env) ⟨rfl, fun _ _ => rfl⟩ (T.ty o.type);rw [Y58 hi, k1] at h;simp at h;rw [Y3 hq] at h;refine ⟨rfl, av, h.symm, fun env2 ha => ?_⟩;obtain ⟨av', k1', k2', k3'⟩ := Y19 hi (tail ha) (T.ty o.type);rw [k1] at k1';simp only [X0, X11] at k1';refine ⟨by simp only [evVal, hop]; rw [Y58 k3', k2']; simp only [Xl, X18]; rw [Y3 (quiet2 ha), <- k1'.2], ?_⟩;unfold footVal;rw [X4 (quiet2 ha), none2 env2];simp only [hop, k3', X1p, (tail ha).reads]
    ·simp at hf
   | box e x =>
    rw [hop] at hf;simp only at hf;split at hf
    ·rename_i hi;simp at hf;obtain ⟨rfl, rfl⟩ := hf;simp [evVal, hop] at h;split at h
     ·rename_i τ he;split at h
      ·rename_i env' ls hta;obtain ⟨rfl, _, _⟩ := Y1t hi (env2 := env) ⟨rfl, fun _ _ => rfl⟩ hta;simp at h;rw [Y3 hq] at h;refine ⟨rfl, _, h.symm, fun env2 ha => ?_⟩;obtain ⟨_, k2', k3'⟩ := Y1t hi (tail ha) hta;refine ⟨by simp [evVal, hop]; rw [he]; simp only; rw [k2']; simp only; rw [Y3 (quiet2 ha)], ?_⟩;unfold footVal;rw [X4 (quiet2 ha), none2 env2];simp only [hop, k3', X1p, (tail ha).reads]
      ·simp at h
     ·simp at h
    ·simp at hf
   | build t' ps =>
    rw [hop] at hf;simp only at hf;split at hf
    ·rename_i hi;simp at hf;obtain ⟨rfl, rfl⟩ := hf;have hi' : ∀ p ∈ ps.toList, inert env p.2 = true := fun p hp => Xa.1 hi p hp;simp [evVal, hop] at h;split at h
     ·rename_i τ he;split at h
      ·rename_i hag;split at h
       ·rename_i env' ls hb;obtain ⟨rfl, _⟩ := Y2n hi' (env2 := env) (fun _ _ => ⟨rfl, fun _ _ => rfl⟩) hb;simp at h;rw [Y3 hq] at h;refine ⟨rfl, _, h.symm, fun env2 ha => ?_⟩;obtain ⟨a1, a2⟩ := Ym (tail ha);have a1' : ∀ p ∈ ps.toList, Agree (opReads env' p.2) env' env2 := fun p hp => a1 _ (X19.2 ⟨p, hp, rfl⟩);obtain ⟨_, k2⟩ := Y2n hi' a1' hb;have hi2 : ps.toList.all (fun p => inert env2 p.2) = true := Xa.2 fun p hp => (Y19 (hi' p hp) (a1' p hp) none).choose_spec.2.2;refine ⟨by simp [evVal, hop]; rw [he]; simp only; rw [X4 hag, k2]; simp only; rw [Y3 (quiet2 ha)], ?_⟩;unfold footVal;rw [X4 (quiet2 ha), none2 env2];simp [hop, hi2, a2]
       ·simp at h
      ·simp at h
     ·simp at h
    ·simp at hf
   | buildSlice t' n ps =>
    rw [hop] at hf;simp only at hf;split at hf
    ·rename_i hi;simp at hf;obtain ⟨rfl, rfl⟩ := hf;have hi' : ∀ p ∈ ps.toList, inert env p.2 = true := fun p hp => Xa.1 hi p hp;simp [evVal, hop] at h;split at h
     ·rename_i te he;split at h
      ·rename_i hc;split at h
       ·rename_i env' xs dp hb;obtain ⟨rfl, _⟩ := Y2t hi' (env2 := env) (fun _ _ => ⟨rfl, fun _ _ => rfl⟩) hb;simp at h;rw [Y3 hq] at h;refine ⟨rfl, _, h.symm, fun env2 ha => ?_⟩;obtain ⟨a1, a2⟩ := Ym (tail ha);have a1' : ∀ p ∈ ps.toList, Agree (opReads env' p.2) env' env2 := fun p hp => a1 _ (X19.2 ⟨p, hp, rfl⟩);obtain ⟨_, k2⟩ := Y2t hi' a1' hb;have hi2 : ps.toList.all (fun p => inert env2 p.2) = true := Xa.2 fun p hp => (Y19 (hi' p hp) (a1' p hp) none).choose_spec.2.2;refine ⟨by simp [evVal, hop]; rw [he]; simp only; rw [X4 hc, k2]; simp only; rw [Y3 (quiet2 ha)], ?_⟩;unfold footVal;rw [X4 (quiet2 ha), none2 env2];simp [hop, hi2, a2]
       ·simp at h
      ·simp at h
     ·simp at h
    ·simp at hf
   | slice t' x lo hi mx =>
    rw [hop] at hf;simp only at hf;split at hf
    ·rename_i hin;simp at hf;obtain ⟨rfl, rfl⟩ := hf;have key : ∀ env2, Agree (d :: (opReads env x ++ allReads env (lo.toList ++ hi.toList))) env env2 -> footVal sig env2 d o = some (d, opReads env x ++ allReads env (lo.toList ++ hi.toList)) /\ (∀ ty, rd ty env2 x = rd ty env x) /\ optInt env2 lo = optInt env lo /\ optInt env2 hi = optInt env hi := fun env2 ha => by
      have a0 := (tail ha).mono (S' := opReads env x) (fun k hk => Xc _ hk);obtain ⟨a1, a2⟩ := Ym ((tail ha).mono (fun k hk => Xe _ hk));obtain ⟨_, _, _, a3⟩ := Y19 hin a0 none;refine ⟨?_, fun ty => a0.rd ty, Y5w (fun y hy => a1 y (by simp at hy ⊢; simp [hy])), Y5w (fun y hy => a1 y (by grind))⟩;unfold footVal;rw [X4 (quiet2 ha), none2 env2];simp [hop, a3, a0.reads, a2]
     simp only [evVal, hop] at h;split at h
     ·simp at h
     ·split at h
      ·rename_i va vb hva hvb;split at h
       ·rename_i sx hsx;split at h
        ·rename_i hty;have hc : (decide (0 <= va.getD 0) && (decide (va.getD 0 <= vb.getD (sx.size : Int)) && decide (vb.getD (sx.size : Int) <= (sx.size : Int)))) = true := by
          cases hcc : (decide (0 <= va.getD 0) && (decide (va.getD 0 <= vb.getD (sx.size : Int)) && decide (vb.getD (sx.size : Int) <= (sx.size : Int)))) with
          | true => rfl
          | false => rw [hcc] at h; simp at h
         rw [hc] at h;simp only [X2h, X0] at h;rw [Y3 hq] at h;refine ⟨rfl, _, h.symm, fun env2 ha => ?_⟩;obtain ⟨b1, b2, b3, b4⟩ := key env2 ha;refine ⟨?_, b1⟩;simp only [evVal, hop, b2, b3, b4, hva, hvb, hsx, hty, hc, X2h];rw [Y3 (quiet2 ha)]
        ·simp at h
       ·rename_i hsx;split at h
        ·rename_i te hte;split at h
         ·rename_i lx hrd;split at h
          ·rename_i xs has;split at h
           ·simp at h
           ·rename_i hl;have hc : (decide (0 <= va.getD 0) && (decide (va.getD 0 <= vb.getD (xs.length : Int)) && decide (vb.getD (xs.length : Int) <= (xs.length : Int)))) = true := by
             cases hcc : (decide (0 <= va.getD 0) && (decide (va.getD 0 <= vb.getD (xs.length : Int)) && decide (vb.getD (xs.length : Int) <= (xs.length : Int)))) with
             | true => rfl
             | false => rw [hcc] at h; simp at h
            rw [hc] at h;simp only [X2h, X0] at h;rw [Y5x hin hrd, Y3 hq] at h;refine ⟨rfl, _, h.symm, fun env2 ha => ?_⟩;obtain ⟨b1, b2, b3, b4⟩ := key env2 ha;refine ⟨?_, b1⟩;simp only [evVal, hop, b2, b3, b4, hva, hvb, hsx, hte, hrd, has, hc, X2h];rw [X2 hl, Y5x hin hrd, Y3 (quiet2 ha)]
          ·simp at h
         ·simp at h
        ·simp at h
      ·simp at h
    ·simp at hf
   | extract x i =>
    rw [hop] at hf;simp only at hf;split at hf
    ·rename_i s;split at hf
     ·rename_i sh ls hs;split at hf
      ·rename_i hno;simp at hf;obtain ⟨rfl, rfl⟩ := hf;simp only [evVal, hop, hs] at h;split at h
       ·rename_i off agg n ho;have hany : (takeLs n (dropLs off ls)).any (fun l => l.m.own) = false := by
         cases ha : (takeLs n (dropLs off ls)).any (fun l => l.m.own) with
         | false => rfl
         | true =>
          obtain ⟨l, hl, hlo⟩ := X1n.1 ha;rw [Yn, Yo] at hl;have := Xa.1 hno l (X25 (X26 hl));rw [hlo] at this;simp at this
        split at h
        ·rename_i hlive;simp only [hany, Xl, X18, X0] at h;rw [Y3 hq] at h;refine ⟨rfl, _, h.symm, fun env2 ha => ?_⟩;have hs2 : get env2 s = .con (.tup sh) ls := (ha.2 s (by simp)).trans hs;refine ⟨by simp only [evVal, hop, hs2, ho]; rw [X4 hlive]; simp only [hany, Xl, X18]; rw [Y3 (quiet2 ha)], ?_⟩;unfold footVal;rw [X4 (quiet2 ha), none2 env2];simp [hop, hs2, hno]
        ·simp at h
       ·simp at h
      ·simp at hf
     ·simp at hf
    ·simp at hf
   | call cl =>
    rw [hop] at hf;simp only at hf;split at hf
    ·rename_i f hc;split at hf
     ·rename_i hfr;simp at hf;obtain ⟨rfl, rfl⟩ := hf;simp [evVal, hop, hc] at h;obtain ⟨v, e, k⟩ := Y6p (env2 := env) hfr hq h;refine ⟨rfl, v, e, fun env2 ha => ?_⟩;obtain ⟨a1, a2⟩ := Ym (tail ha);refine ⟨by simp [evVal, hop, hc]; exact k env2 a1 (by simp) (quiet2 ha), ?_⟩;unfold footVal;rw [X4 (quiet2 ha), none2 env2];simp [hop, hc, hfr, a2]
     ·simp at hf
    ·rename_i t' hc;split at hf
     ·rename_i f cs ht;split at hf
      ·rename_i hfr;simp at hf;obtain ⟨rfl, rfl⟩ := hf;simp [evVal, hop, hc, ht] at h;obtain ⟨v, e, k⟩ := Y6p (env2 := env) hfr hq h;refine ⟨rfl, v, e, fun env2 ha => ?_⟩;have hb := (tail ha).mono (S' := opReads env (.tmp t')) (fun k hk => Xc _ hk);obtain ⟨a1, a2⟩ := Ym ((tail ha).mono (fun k hk => Xe _ hk));have ht2 : get env2 t' = .clo f cs := (hb.2 t' (by simp [opReads])).trans ht;refine ⟨by
        simp [evVal, hop, hc, ht2];refine k env2 a1 (fun v hv q hq => ?_) (quiet2 ha);simp only [X19] at hv;obtain ⟨p, hp, rfl⟩ := hv;simp [rootsOf] at hq;refine hb.2 q ?_;simp only [opReads, ht, rootsOf];exact X3 _ (X19.2 ⟨p, hp, hq.symm⟩), ?_⟩
       unfold footVal;rw [X4 (quiet2 ha), none2 env2];simp [hop, hc, ht2, hfr, a2, hb.reads]
      ·simp at hf
     ·simp at hf
    ·rename_i hc;simp at hf;obtain ⟨rfl, rfl⟩ := hf;have key : ∀ env2, Agree (d :: allReads env cl.args.toList) env env2 -> footVal sig env2 d o = some (d, allReads env cl.args.toList) := fun env2 ha => by
      unfold footVal;rw [X4 (quiet2 ha), none2 env2];simp only [hop, hc, (Ym (tail ha)).2]
     simp [evVal, hop, hc] at h;split at h
     ·rename_i x t' hargs htys;have hx : ∀ env2, Agree (d :: allReads env cl.args.toList) env env2 -> Agree (opReads env x) env env2 := fun env2 ha => (Ym (tail ha)).1 x (by grind);split at h
      ·rename_i s hs;split at h
       ·rename_i ht;simp at h;rw [Y3 hq] at h;exact ⟨rfl, _, h.symm, fun env2 ha => ⟨by simp [evVal, hop, hc, hargs, htys]; rw [(hx env2 ha).rd, hs]; simp only; rw [ht]; simp only; rw [Y3 (quiet2 ha)], key env2 ha⟩⟩
       ·simp at h
      ·rename_i hs;split at h
       ·rename_i e τ ht;split at h
        ·rename_i lx hrd;split at h
         ·rename_i xs hxs;split at h
          ·rename_i hl;simp at h;rw [Y3 hq] at h;exact ⟨rfl, _, h.symm, fun env2 ha => ⟨by simp [evVal, hop, hc, hargs, htys]; rw [(hx env2 ha).rd, hs]; simp only; rw [ht]; simp only; rw [(hx env2 ha).rd, hrd]; simp only; rw [hxs]; simp only; rw [X4 hl, Y3 (quiet2 ha)], key env2 ha⟩⟩
          ·simp at h
         ·simp at h
        ·simp at h
       ·simp at h
     ·simp at h
    ·rename_i hc;simp at hf;obtain ⟨rfl, rfl⟩ := hf;simp [evVal, hop, hc] at h;split at h
     ·rename_i x y hargs;split at h
      ·rename_i k n k' m hx hy;split at h
       ·rename_i hkk;simp at h;rw [Y3 hq] at h;refine ⟨rfl, _, h.symm, fun env2 ha => ?_⟩;obtain ⟨a1, a2⟩ := Ym (tail ha);refine ⟨by simp [evVal, hop, hc, hargs]; rw [(a1 x (by rw [hargs]; simp)).rd, (a1 y (by grind)).rd, hx, hy]; simp only; rw [X4 hkk, Y3 (quiet2 ha)], ?_⟩;unfold footVal;rw [X4 (quiet2 ha), none2 env2];simp [hop, hc, a2]
       ·simp at h
      ·simp at h
     ·simp at h
    ·rename_i hc;simp at hf;obtain ⟨rfl, rfl⟩ := hf;simp [evVal, hop, hc] at h;split at h
     ·rename_i x y hargs;split at h
      ·rename_i k n k' m hx hy;split at h
       ·rename_i hkk;simp at h;rw [Y3 hq] at h;refine ⟨rfl, _, h.symm, fun env2 ha => ?_⟩;obtain ⟨a1, a2⟩ := Ym (tail ha);refine ⟨by simp [evVal, hop, hc, hargs]; rw [(a1 x (by rw [hargs]; simp)).rd, (a1 y (by simp_all)).rd, hx, hy]; simp only; rw [X4 hkk, Y3 (quiet2 ha)], ?_⟩;unfold footVal;rw [X4 (quiet2 ha), none2 env2];simp [hop, hc, a2]
       ·simp at h
      ·simp at h
     ·simp at h
    ·simp at hf
   | _ => grind
 ·simp at hf
end
structure DS where
 ts : List Nat := []
 bx : List Nat := []
def AV.free (TS : DS) (v : AV) : Bool := (v.refs.all fun q => !TS.ts.contains q.1 && !TS.bx.contains q.1) && v.ptrs.all fun q => !TS.ts.contains q
def AV.isBox : AV -> Bool
 | .con (.box _) _ => true
 | _ => false
abbrev Fr (TS : DS) : Nat -> AV -> Prop := fun r v => v.free TS = true /\ (r ∈ TS.bx -> v.isBox = true)
theorem Yd8 {TS : DS} {s j : Nat} (hs : s ∈ TS.bx) {v : AV} (h : v.free TS = true) : v.chg (freezeG s j) = v := by
 simp only [AV.free, X9, Xa, X1h, X1d, X29] at h;obtain ⟨h1, _⟩ := h;have hne : ∀ q ∈ v.refs, ¬ (q.1 = s /\ q.2 = j) := fun q hq e => (h1 q hq).2 (e.1 ▸ hs);have leaf : ∀ l : Leaf, (∀ q ∈ l.refs, ¬ (q.1 = s /\ q.2 = j)) -> l.chg (freezeG s j) = l := by
  intro l hl;obtain ⟨t, x, m⟩ := l;cases m with
  | at_ _ => rfl
  | dead => rfl
  | bor r j p => simp only [Leaf.chg, freezeG]; rw [X2 (hl (r, j) (by simp [Leaf.refs]))]
 have leaves : ∀ ls : List Leaf, (∀ q ∈ ls.flatMap Leaf.refs, ¬ (q.1 = s /\ q.2 = j)) -> chgs (freezeG s j) ls = ls := by
  intro ls
  induction ls with
  | nil => intro _; rfl
  | cons l ls ih =>
   intro hls;rw [chgs, leaf l (fun q hq => hls q (by simp [hq])), ih (fun q hq => hls q (by rw [X1t]; exact Xe _ hq))]
 cases v with
 | con k ls => simp only [AV.chg]; rw [leaves ls hne]
 | path r off => rfl
 | eptr ls wr =>
  cases wr with
  | none => simp only [AV.chg]; rw [leaves ls (fun q hq => hne q (by simp only [AV.refs, Xf]; exact hq))]
  | some w =>
   simp only [AV.chg];rw [leaves ls (fun q hq => hne q (by simp only [AV.refs]; exact Xc _ hq)), X2 (by simpa [freezeG] using hne (w.1, w.2.1) (by simp [AV.refs]))]
 | clo f caps => simp [AV.chg, freezeG]
 | fptr f caps => simp [AV.chg, freezeG]
 | cloS f caps => simp [AV.chg, freezeG]
 | grow r j i o l => simp only [AV.chg]; rw [X2 (by simpa [freezeG] using hne (r, j) (by simp [AV.refs]))]
 | sel r j e e2 t ix x => simp only [AV.chg]; rw [X2 (by simpa [freezeG] using hne (r, j) (by simp [AV.refs]))]
 | _ => rfl
theorem Y5y {TS : DS} {s j : Nat} (hs : s ∈ TS.bx) : ∀ {env : Env}, (∀ r, (get env r).free TS = true) -> chgEnv (freezeG s j) env = env
 | [], _ => rfl
 | v :: env, h => by
  show v.chg _ :: chgEnv _ env = _;have h0 : v.free TS = true := h 0;rw [Yd8 hs h0, Y5y hs (fun r => h (r + 1))]
def giveV : AV -> Nat -> List Leaf -> AV
 | v, _, [] => v
 | v, j, l :: ls => giveV (if l.m.own then (match v.leaf? j with
   | some l' => if l'.m.own then v.setLeaf j l'.ro else v
   | none => v) else v) (j + 1) ls
theorem Yaf {TS : DS} {v : AV} {j : Nat} {l : Leaf} (hl : l.refs = []) (h : v.free TS = true) : (v.setLeaf j l).free TS = true := by
 cases v with
 | con k ls =>
  simp only [AV.free, X9, Xa] at h ⊢;exact ⟨fun q hq => h.1 q (Y3s hl q hq), fun q hq => h.2 q (by simpa [AV.setLeaf, AV.ptrs] using hq)⟩
 | _ => exact h
theorem Yea {TS : DS} {s : Nat} {w : AV} (h : ∀ r, (get env r).free TS = true) (hw : w.free TS = true) : ∀ r, (get (put env s w) r).free TS = true := fun r => by
 rw [Y12];split
 ·exact hw
 ·exact h r
theorem Y2g {TS : DS} {s : Nat} (hs : s ∈ TS.bx) : ∀ (ls : List Leaf) (j : Nat) {env : Env}, s < env.length -> (∀ r, (get env r).free TS = true) -> giveUp s j ls env = put env s (giveV (get env s) j ls)
 | [], j, env, _, h => (Y2m rfl).symm
 | l :: ls, j, env, hl, h => by
  rw [giveUp, giveV];by_cases ho : l.m.own = true
  ·rw [X4 ho, X4 ho];unfold freeze;split
   ·rename_i hn;rw [hn];exact Y2g hs ls (j + 1) hl h
   ·rename_i l' hn;rw [hn];simp only;by_cases ho' : l'.m.own = true
    ·rw [X4 ho', X4 ho', Y5y hs h];have hf := Yea (s := s) h (Yaf (j := j) (l := l'.ro) rfl (h s));rw [Y2g hs ls (j + 1) (by rw [Y5]; exact hl) hf, Y4v, Y12, X4 ⟨rfl, hl⟩]
    ·rw [X2 ho', X2 ho'];exact Y2g hs ls (j + 1) hl h
  ·rw [X2 ho, X2 ho];exact Y2g hs ls (j + 1) hl h
def stV (τ : Ty) (ls : List Leaf) : AV -> Option AV
 | .con (.box e0) old =>
  if 0 + τ.sz <= old.length /\ ((takeLs τ.sz (dropLs 0 old)).map Leaf.t) = flat τ then
   match giveV (.con (.box e0) old) 0 (takeLs τ.sz (dropLs 0 old)) with
   | .con (.box e) old2 => if (0 + τ.sz <= old2.length /\ ((takeLs τ.sz (dropLs 0 old2)).all fun l => !l.m.own) = true) /\ e.free 0 τ.sz = true then some (.con (.box e) (setLeaves old2 0 ls)) else none
   | _ => none
  else none
 | _ => none
section
variable {T : Tab} {TS : DS}
theorem Y7t {t : TypeId} {s : Nat} {v : Operand} {e0 : BoxK} {old : List Leaf} (hs : s ∈ TS.bx) (hl : s < env.length) (h : ∀ r, (get env r).free TS = true) (hg : get env s = .con (.box e0) old) (ht : T.ty t = some τ) (hta : takeAs τ env v = some (env, ls)) :
  storePlain T t (.tmp s) v env some = (stV τ ls (get env s)).map (put env s) := by
 have hr : rd none env (.tmp s) = .path s 0 := by simp only [rd, hg]
 unfold storePlain;rw [ht];simp only [hta, hr, hg, stV];split
 ·rw [Y2g hs _ 0 hl h, Y12, X4 ⟨rfl, hl⟩, hg];split
  ·rename_i e old2 h2;simp only [h2];split
   ·simp only [X1w, Y4v]
   ·rfl
  ·rename_i hx;split
   ·rename_i e old2 h2;exact absurd h2 (hx e old2)
   ·rfl
 ·rfl
end
def footStore (T : Tab) (TS : DS) (env : Env) (o : Oper) : Foot := match o.op with
 | .store t (.tmp s) v => match get env s with
  | .con (.box _) _ => if (TS.bx.contains s && !T.isFn t) && inert env v then some ([s], opReads env v) else none
  | _ => none
 | _ => none
theorem Ycj {v : Operand} (h : inert env v = true) : growOf env v = none := by
 cases v with
 | tmp s => cases hg : get env s <;> simp_all [inert, growOf]
 | _ => rfl
section
variable {T : Tab} {TS : DS} {sig : FuncId -> Option Sig} {caps : FuncId -> List Ty} {orc : Orc}
theorem Y8c {env e1 : Env} {W Rd : List Nat} (hd : o.dst = none) (hJ : AllJ (Fr TS) env) (hf : footStore T TS env o = some (W, Rd)) (h : evOp T sig caps orc o env some = some e1) :
  ∃ vs, vs.length = W.length /\ e1 = puts env W vs /\ ∀ env2, AllJ (Fr TS) env2 -> Agree (W ++ Rd) env env2 -> evOp T sig caps orc o env2 some = some (puts env2 W vs) /\ footStore T TS env2 o = some (W, Rd) := by
 unfold footStore at hf;split at hf
 ·rename_i t s v hop;split at hf
  ·rename_i e0 old hg;split at hf
   ·rename_i hc;simp only [X9, X1h, X1d, X1a] at hc;obtain ⟨⟨hs, hfn⟩, hin⟩ := hc;simp only [X0, X11] at hf;obtain ⟨rfl, rfl⟩ := hf;have hl : s < env.length := by
     rcases Nat.lt_or_ge s env.length with h' | h'
     ·exact h'
     ·rw [Y1d env s h'] at hg; simp at hg
    have hev : ∀ env2, evOp T sig caps orc o env2 some = store1 T t (.tmp s) v env2 some := fun env2 => by
     unfold evOp; rw [hd]; simp only [hop]
    have hplain : ∀ env2, inert env2 v = true -> store1 T t (.tmp s) v env2 some = storePlain T t (.tmp s) v env2 some := fun env2 hi => by
     unfold store1;rw [X2 (by rw [hfn]; simp), Ycj hi]
    rw [hev, hplain env hin] at h;obtain ⟨τ, ht⟩ : ∃ τ, T.ty t = some τ := by
     cases ht : T.ty t with
     | none => unfold storePlain at h; rw [ht] at h; simp at h
     | some τ => exact ⟨τ, rfl⟩
    obtain ⟨env1, ls, hta⟩ : ∃ env1 ls, takeAs τ env v = some (env1, ls) := by
     cases hta : takeAs τ env v with
     | none => unfold storePlain at h; rw [ht] at h; simp only [hta] at h; simp at h
     | some p => exact ⟨p.1, p.2, rfl⟩
    obtain ⟨rfl, _, _⟩ := Y1t (env2 := env) hin ⟨rfl, fun _ _ => rfl⟩ hta;rw [Y7t hs hl (fun r => (hJ r).1) hg ht hta] at h;obtain ⟨b', hb, rfl⟩ : ∃ b', stV τ ls (get env1 s) = some b' /\ put env1 s b' = e1 := by
     simpa [Xu] using h
    refine ⟨[b'], rfl, rfl, fun env2 hJ2 ha => ?_⟩;have hgs : get env2 s = get env1 s := ha.2 s (by simp);have ha2 : Agree (opReads env1 v) env1 env2 := ha.mono (fun k hk => by simp [hk]);obtain ⟨_, hta2, hin2⟩ := Y1t hin ha2 hta;have hl2 : s < env2.length := by rw [ha.1]; exact hl
    refine ⟨?_, ?_⟩
    ·rw [hev, hplain env2 hin2, Y7t hs hl2 (fun r => (hJ2 r).1) (hgs.trans hg) ht hta2, hgs, hb];rfl
    ·unfold footStore;rw [hop];simp only [hgs, hg];rw [X4 (by simp [hs, hfn, hin2]), ha2.reads]
   ·simp at hf
  ·simp at hf
 ·simp at hf
end
def ownRow : AV -> Bool
 | .con .val [⟨.slice _ te, _, .at_ .dp⟩] => te.flatB
 | .con .val [⟨.slice _ te, _, .at_ .sh⟩] => te.flatB
 | _ => false
def isTmp (s : Nat) : Operand -> Bool
 | .tmp s' => Nat.beq s s'
 | _ => false
def footApp (T : Tab) (TS : DS) (env : Env) (d : Nat) (o : Oper) : Foot := match o.op with
 | .call c => match c.callee with
  | .builtin .append => match c.args.toList, c.argTypes.toList with
   | [.tmp ts, x], [t, _] => match elemAt T t with
    | some te => if (TS.ts.contains ts && !(Nat.beq d ts)) && ((get env d).quiet && ((ownRow (get env ts) && te.ty.flatB) && !isTmp ts x)) then some ([ts, d], opReads env x) else none
    | none => none
   | _, _ => none
  | _ => none
 | _ => none
def isAt : Mode -> Bool
 | .at_ _ => true
 | _ => false
def takes (TS : DS) (env : Env) (x : Operand) : Option (List Nat × List Nat) :=
 if inert env x then some ([], opReads env x) else match x with
  | .tmp s => match get env s with
   | .con k ls => if (TS.ts.contains s && k.plain) && (ls.all (fun l => isAt l.m) && ls.any fun l => l.m.own) then some ([s], []) else none
   | _ => none
  | _ => none
def gone (W : List Nat) : List AV := W.map fun _ => AV.undef
def takesAll (TS : DS) : Env -> List Operand -> Option (List Nat × List Nat)
 | _, [] => some ([], [])
 | env, x :: xs => match takes TS env x with
  | some (W, R) => match takesAll TS (puts env W (gone W)) xs with
   | some (W', R') => some (W ++ W', R ++ R')
   | none => none
  | none => none
def footTake (TS : DS) (env : Env) (d : Nat) (o : Oper) : Foot := if (get env d).quiet then match o.op with
  | .build _ ps => match takesAll TS env (ps.toList.map (·.2)) with
   | some (W, R) => if W.contains d then none else some (W ++ [d], R)
   | none => none
  | .buildSlice _ _ ps => match takesAll TS env (ps.toList.map (·.2)) with
   | some (W, R) => if W.contains d then none else some (W ++ [d], R)
   | none => none
  | .assign x => match takes TS env x with
   | some (W, R) => if W.contains d then none else some (W ++ [d], R)
   | none => none
  | _ => none
 else match o.op with
  | .assign (.tmp s) => if TS.ts.contains d && !(Nat.beq d s) then match takes TS env (.tmp s) with
   | some ([s'], []) => if Nat.beq s s' then some ([s, d], []) else none
   | some ([], R) => if inert env (.tmp s) then some ([d], R) else none
   | _ => none
   else none
  | _ => none
def footBox (sig : FuncId -> Option Sig) (TS : DS) (env : Env) (d : Nat) (o : Oper) : Foot := match o.op with
 | .call c => match c.callee with
  | .value (.func f) => match sig f with
   | some sg => match sg.box with
    | some b => match nthL (rdArgs env sg.params c.args.toList) b.k with
     | some (.path r 0) => if ((get env d).quiet && TS.bx.contains r) && (!(Nat.beq d r) && sg.params.all fun p => decide (p ≠ .self)) then some ([r, d], allReads env c.args.toList) else none
     | _ => none
    | none => none
   | none => none
  | _ => none
 | _ => none
def footPtr (TS : DS) (env : Env) (d : Nat) (o : Oper) : Foot := match o.op with
 | .move (.tmp s) => if (get env d).quiet && TS.bx.contains s then some ([d], []) else none
 | _ => none
def isBuild : Op -> Bool
 | .build _ _ => true
 | .buildSlice _ _ _ => true
 | .assign _ => true
 | _ => false
def Foot.reads (xs : List Nat) : Foot -> Foot
 | some (W, R) => some (W, xs ++ R)
 | none => none
def footRun (T : Tab) (sig : FuncId -> Option Sig) (TS : DS) (o : Oper) (env : Env) : Foot := match o.dst with
 | some d => if isBuild o.op then footTake TS env d o else match footPtr TS env d o with
  | some f => some f
  | none => match footVal sig env d o with
  | some (t, R) => some ([t], R)
  | none => match footBox sig TS env d o with
   | some f => some f
   | none => footApp T TS env d o
 | none => footStore T TS env o
def footSkip (o : Oper) (env : Env) : Foot := match o.dst with
 | some d => if (get env d).quiet then some ([d], []) else none
 | none => none
def footG (T : Tab) (sig : FuncId -> Option Sig) (TS : DS) (ops : Array Oper) (o : Oper) (env : Env) : Foot := match o.guard with
 | none => footRun T sig TS o env
 | some (j, want) => match (ops[j]?).bind (·.dst) with
  | none => none
  | some dj => match get env dj with
   | .skip => Foot.reads [dj] (footSkip o env)
   | .con .val [⟨.bool, b, .at_ .ro⟩] => if b = want then Foot.reads [dj] (footRun T sig TS o env) else Foot.reads [dj] (footSkip o env)
   | _ => none
theorem Yeb {TS : DS} {s : Nat} (hs : s ∈ TS.ts) {v : AV} (h : v.free TS = true) : v.chg (killG s) = v := by
 simp only [AV.free, X9, Xa, X1h, X1d, X29] at h;obtain ⟨h1, h2⟩ := h;have hne : ∀ q ∈ v.refs, q.1 ≠ s := fun q hq e => (h1 q hq).1 (e ▸ hs);have hne2 : ∀ q ∈ v.ptrs, q ≠ s := fun q hq e => h2 q hq (e ▸ hs);have leaf : ∀ l : Leaf, (∀ q ∈ l.refs, q.1 ≠ s) -> l.chg (killG s) = l := by
  intro l hl;obtain ⟨t, x, m⟩ := l;cases m with
  | at_ _ => rfl
  | dead => rfl
  | bor r j p => simp only [Leaf.chg, killG]; rw [X2 (hl (r, j) (by simp [Leaf.refs]))]
 have leaves : ∀ ls : List Leaf, (∀ q ∈ ls.flatMap Leaf.refs, q.1 ≠ s) -> chgs (killG s) ls = ls := by
  intro ls
  induction ls with
  | nil => intro _; rfl
  | cons l ls ih =>
   intro hls;rw [chgs, leaf l (fun q hq => hls q (by simp [hq])), ih (fun q hq => hls q (by simp_all))]
 cases v with
 | con k ls => simp only [AV.chg]; rw [leaves ls hne]
 | path r off => simp only [AV.chg]; rw [X2 (by simpa [killG] using hne2 r (by simp [AV.ptrs]))]
 | eptr ls wr =>
  cases wr with
  | none => simp only [AV.chg]; rw [leaves ls (fun q hq => hne q (by simp only [AV.refs, Xf]; exact hq))]
  | some w =>
   simp only [AV.chg];rw [leaves ls (fun q hq => hne q (by simp only [AV.refs]; exact Xc _ hq)), X2 (by simpa [killG] using hne (w.1, w.2.1) (by simp [AV.refs]))]
 | clo f caps =>
  simp only [AV.chg];rw [X2];simp only [X1n, not_exists, not_and];intro q hq;simpa [killG] using hne2 q.1 (by simp only [AV.ptrs, X19]; exact ⟨q, hq, rfl⟩)
 | fptr f caps =>
  simp only [AV.chg];rw [X2];simp;intro q hq;simpa [killG] using hne2 q hq
 | cloS f caps =>
  simp only [AV.chg];rw [X2];simp;intro q hq;simpa [killG] using hne2 q hq
 | grow r j i o l => simp only [AV.chg]; rw [X2 (by simpa [killG] using hne (r, j) (by simp [AV.refs]))]
 | sel r j e e2 t ix x => simp only [AV.chg]; rw [X2 (by simpa [killG] using hne (r, j) (by simp [AV.refs]))]
 | _ => rfl
theorem Y4t {TS : DS} {s : Nat} (hs : s ∈ TS.ts) : ∀ {env : Env}, (∀ r, (get env r).free TS = true) -> chgEnv (killG s) env = env
 | [], _ => rfl
 | v :: env, h => by
  show v.chg _ :: chgEnv _ env = _;have h0 : v.free TS = true := h 0;rw [Yeb hs h0, Y4t hs (fun r => h (r + 1))]
theorem Y8r {TS : DS} {s : Nat} (hs : s ∈ TS.ts) {v : AV} (h : v.free TS = true) : v.chg (forgetG s) = v := by
 simp only [AV.free, X9, Xa, X1h, X1d, X29] at h;obtain ⟨h1, h2⟩ := h;have hne : ∀ q ∈ v.refs, q.1 ≠ s := fun q hq e => (h1 q hq).1 (e ▸ hs);have hne2 : ∀ q ∈ v.ptrs, q ≠ s := fun q hq e => h2 q hq (e ▸ hs);have leaf : ∀ l : Leaf, (∀ q ∈ l.refs, q.1 ≠ s) -> l.chg (forgetG s) = l := by
  intro l hl;obtain ⟨t, x, m⟩ := l;cases m with
  | at_ _ => rfl
  | dead => rfl
  | bor r j p => simp only [Leaf.chg, forgetG]; rw [X2 (hl (r, j) (by simp [Leaf.refs]))]
 have leaves : ∀ ls : List Leaf, (∀ q ∈ ls.flatMap Leaf.refs, q.1 ≠ s) -> chgs (forgetG s) ls = ls := by
  intro ls
  induction ls with
  | nil => intro _; rfl
  | cons l ls ih =>
   intro hls;rw [chgs, leaf l (fun q hq => hls q (by simp [hq])), ih (fun q hq => hls q (by rw [X1t]; exact Xe _ hq))]
 cases v with
 | con k ls => simp only [AV.chg]; rw [leaves ls hne]
 | path r off => simp only [AV.chg]; rw [X2 (by simpa [forgetG] using hne2 r (by simp [AV.ptrs]))]
 | eptr ls wr =>
  cases wr with
  | none => simp only [AV.chg]; rw [leaves ls (fun q hq => hne q (by simp only [AV.refs, Xf]; exact hq))]
  | some w =>
   simp only [AV.chg];rw [leaves ls (fun q hq => hne q (by simp only [AV.refs]; exact Xc _ hq)), X2 (by simpa [forgetG] using hne (w.1, w.2.1) (by simp [AV.refs]))]
 | clo f caps =>
  simp only [AV.chg];rw [X2];simp only [X1n, not_exists, not_and];intro q hq;simpa [forgetG] using hne2 q.1 (by simp only [AV.ptrs, X19]; exact ⟨q, hq, rfl⟩)
 | fptr f caps =>
  simp only [AV.chg];rw [X2];simp only [X1n, not_exists, not_and];intro q hq;simpa [forgetG] using hne2 q hq
 | cloS f caps =>
  simp only [AV.chg];rw [X2];simp only [X1n, not_exists, not_and];intro q hq;simpa [forgetG] using hne2 q hq
 | grow r j i o l => simp only [AV.chg]; rw [X2 (by simpa [forgetG] using hne (r, j) (by simp [AV.refs]))]
 | sel r j e e2 t ix x => simp only [AV.chg]; rw [X2 (by simpa [forgetG] using hne (r, j) (by simp [AV.refs]))]
 | _ => rfl
theorem Y49 {TS : DS} {s : Nat} (hs : s ∈ TS.ts) : ∀ {env : Env}, (∀ r, (get env r).free TS = true) -> chgEnv (forgetG s) env = env
 | [], _ => rfl
 | v :: env, h => by
  show v.chg _ :: chgEnv _ env = _;have h0 : v.free TS = true := h 0;rw [Y8r hs h0, Y49 hs (fun r => h (r + 1))]
theorem Yd9 {TS : DS} {s : Nat} (hs : s ∈ TS.bx) {v : AV} (h : v.free TS = true) : v.chg (renewG s) = v := by
 simp only [AV.free, X9, Xa, X1h, X1d, X29] at h;obtain ⟨h1, _⟩ := h;have hne : ∀ q ∈ v.refs, q.1 ≠ s := fun q hq e => (h1 q hq).2 (e ▸ hs);have leaf : ∀ l : Leaf, (∀ q ∈ l.refs, q.1 ≠ s) -> l.chg (renewG s) = l := by
  intro l hl;obtain ⟨t, x, m⟩ := l;cases m with
  | at_ _ => rfl
  | dead => rfl
  | bor r j p => simp only [Leaf.chg, renewG]; rw [X2 (hl (r, j) (by simp [Leaf.refs]))]
 have leaves : ∀ ls : List Leaf, (∀ q ∈ ls.flatMap Leaf.refs, q.1 ≠ s) -> chgs (renewG s) ls = ls := by
  intro ls
  induction ls with
  | nil => intro _; rfl
  | cons l ls ih =>
   intro hls;rw [chgs, leaf l (fun q hq => hls q (by simp [hq])), ih (fun q hq => hls q (by grind))]
 cases v with
 | con k ls => simp only [AV.chg]; rw [leaves ls hne]
 | path r off => rfl
 | eptr ls wr =>
  cases wr with
  | none => simp only [AV.chg]; rw [leaves ls (fun q hq => hne q (by simp only [AV.refs, Xf]; exact hq))]
  | some w =>
   simp only [AV.chg];rw [leaves ls (fun q hq => hne q (by simp only [AV.refs]; exact Xc _ hq)), X2 (by simpa [renewG] using hne (w.1, w.2.1) (by simp [AV.refs]))]
 | clo f caps => simp [AV.chg, renewG]
 | fptr f caps => simp [AV.chg, renewG]
 | cloS f caps => simp [AV.chg, renewG]
 | grow r j i o l => simp only [AV.chg]; rw [X2 (by simpa [renewG] using hne (r, j) (by simp [AV.refs]))]
 | sel r j e e2 t ix x => simp only [AV.chg]; rw [X2 (by simpa [renewG] using hne (r, j) (by simp [AV.refs]))]
 | _ => rfl
theorem Y5z {TS : DS} {s : Nat} (hs : s ∈ TS.bx) : ∀ {env : Env}, (∀ r, (get env r).free TS = true) -> chgEnv (renewG s) env = env
 | [], _ => rfl
 | v :: env, h => by
  show v.chg _ :: chgEnv _ env = _;have h0 : v.free TS = true := h 0;rw [Yd9 hs h0, Y5z hs (fun r => h (r + 1))]
theorem Ybh {caps : FuncId -> List Ty} {env : Env} {r : Nat} : ∀ {ps : List PTy} {vs : List AV}, (ps.all fun p => decide (p ≠ .self)) = true -> RVsX caps env r ps vs = RVs caps env ps vs
 | [], [], _ => rfl
 | [], _ :: _, _ => rfl
 | _ :: _, [], _ => rfl
 | p :: ps, v :: vs, h => by
  simp only [List.all_cons, X9, X1a] at h;have h1 : RVofX caps env r p v = RVof caps env p v := by
   cases p with
   | self => exact absurd rfl h.1
   | _ => rfl
  simp only [RVsX, RVs, h1, Ybh (ps := ps) (vs := vs) h.2]
theorem Yb3 {v : AV} (h : ownRow v = true) : ∃ e te xs lv, v = .con .val [⟨.slice e te, xs, .at_ lv⟩] /\ te.flatB = true /\ (lv = .dp \/ lv = .sh) := by
 unfold ownRow at h;split at h
 ·grind
 ·grind
 ·simp at h
theorem Yag {TS : DS} {ts : Nat} {te : Ty} {ss : List te.D} (hJ : AllJ (Fr TS) env) (hts : ts ∈ TS.ts) (hg : get env ts = .con .val [⟨.slice e te, ss, .at_ lv⟩]) (hlv : lv = .dp \/ lv = .sh) (ty : Ty) :
  grabS ty env (.tmp ts) = some (put env ts .undef, .con .val [⟨.slice e te, ss, .at_ lv⟩]) := by
 have hp : pullAll (.tmp ts) env = env := by
  simp only [pullAll, hg, Kind.plain, X1p, List.length_singleton, pulls];unfold pull;rw [hg];rfl
 have hown : (Mode.at_ lv).own = true := by rcases hlv with rfl | rfl <;> rfl
 have htake : takeIn (some ty) env (.tmp ts) = some (put env ts .undef, .con .val [⟨.slice e te, ss, .at_ lv⟩]) := by
  unfold takeIn;rw [hp];simp only [takeIn0, hg, Kind.plain, X1p, freezeAll];rw [X4 ⟨trivial, by simp [Mode.settled]⟩];simp only [List.any_cons, hown, Bool.true_or, X1p];unfold killRoot;rw [Y4t hts (fun r => (hJ r).1)]
 unfold grabS;simp [hg];exact htake
theorem Y7u {TS : DS} {d ts : Nat} {t : TypeId} {t' : TE} {te : Ty} {ss : List te.D} {lx : Leaf} {xs s' : List t'.ty.D} (he : elemAt T t = some t') (hfl : t'.ty.flatB = true) (hJ : AllJ (Fr TS) env) (hts : ts ∈ TS.ts) (hd : d ≠ ts) (hq : (get env d).quiet = true) (hg : get env ts = .con .val [⟨.slice e te, ss, .at_ lv⟩]) (hlv : lv = .dp \/ lv = .sh)
  (hrd : rd (some (.slice t'.id t'.ty)) env x = .con .val [lx]) (has : lx.as (.slice t'.id t'.ty) = some xs) (hl : lx.m.live = true) (has2 : (⟨.slice e te, ss, .at_ lv⟩ : Leaf).as (.slice t'.id t'.ty) = some s') :
  append1 T (some d) t (.tmp ts) x env some = appendTo t' lv s' xs fun l => some (puts env [ts, d] [.undef, .con .val [l]]) := by
 have hq2 : (get (put env ts .undef) d).quiet = true := by
  rw [Y12];split
  ·rfl
  ·exact hq
 unfold append1;simp [he, hfl, hrd, has, hl];unfold appendS;rw [Yag hJ hts hg hlv];simp [has2];rcases hlv with rfl | rfl
 ·simp;congr 1;funext l;rw [Y3 hq2]; rfl
 ·simp only;congr 1;funext l;rw [Y3 hq2]; rfl
theorem Y8d {TS : DS} {env e1 : Env} {d ts : Nat} {t : TypeId} {t' : TE} {te : Ty} {ss : List te.D} (he : elemAt T t = some t') (hfl : t'.ty.flatB = true) (hJ : AllJ (Fr TS) env) (hts : ts ∈ TS.ts) (hg : get env ts = .con .val [⟨.slice e te, ss, .at_ lv⟩]) (hlv : lv = .dp \/ lv = .sh)
  (h : append1 T (some d) t (.tmp ts) x env some = some e1) : ∃ (lx : Leaf) (xs s' : List t'.ty.D), rd (some (.slice t'.id t'.ty)) env x = .con .val [lx] /\ lx.as (.slice t'.id t'.ty) = some xs /\ lx.m.live = true /\ (⟨.slice e te, ss, .at_ lv⟩ : Leaf).as (.slice t'.id t'.ty) = some s' := by
 unfold append1 at h;simp [he, hfl] at h;split at h
 ·rename_i lx hrd;split at h
  ·rename_i xs has;split at h
   ·rename_i hl;unfold appendS at h;rw [Yag hJ hts hg hlv] at h;simp only at h;split at h
    ·grind
    ·simp at h
   ·simp at h
  ·simp at h
 ·simp at h
section
variable {T : Tab} {sig : FuncId -> Option Sig} {caps : FuncId -> List Ty} {orc : Orc} {TS : DS}
theorem Yb4 {c : Call} (ho : o.op = .call c) (hc : c.callee = .builtin .append) : footVal sig env d o = none := by
 unfold footVal;split
 ·simp [ho, pureReads, hc]
 ·rfl
theorem Yah {env e1 : Env} {W Rd : List Nat} (hJ : AllJ (Fr TS) env) (hf : footApp T TS env d o = some (W, Rd)) (h : evVal T sig caps orc d o env some = some e1) :
  ∃ vs, vs.length = W.length /\ e1 = puts env W vs /\ ∀ env2, AllJ (Fr TS) env2 -> Agree (W ++ Rd) env env2 -> evVal T sig caps orc d o env2 some = some (puts env2 W vs) /\ footVal sig env2 d o = none /\ footApp T TS env2 d o = some (W, Rd) := by
 unfold footApp at hf;split at hf
 ·rename_i c ho;split at hf
  ·rename_i hc;split at hf
   ·rename_i ts x t t0 hargs htys;split at hf
    ·rename_i t1 he;split at hf
     ·rename_i hcond;simp at hcond;obtain ⟨⟨hts, hdt⟩, hq, ⟨hown, hfl⟩, hxt⟩ := hcond;have hdt' : d ≠ ts := fun e => by simp_all
      simp at hf;obtain ⟨rfl, rfl⟩ := hf;obtain ⟨e, te, ss, lv, hg, _, hlv⟩ := Yb3 hown
      -- the operation, in any such environment
      have hop : ∀ (env' : Env), get env' ts = get env ts -> evVal T sig caps orc d o env' some = if t = t0 then append1 T (some d) t (.tmp ts) x env' some else none := by
       intro env' hg';have hn : nestOf env' (.tmp ts) = none := by
        first
         | rfl
         | (unfold nestOf; simp [hg', hg])
       simp [evVal, ho, hc, hargs, htys, hn]
      rw [hop env rfl] at h;split at h
      ·rename_i htt;obtain ⟨lx, xs, s1, hrd, has, hl, has1⟩ := Y8d he hfl hJ hts hg hlv h;rw [Y7u he hfl hJ hts hdt' hq hg hlv hrd has hl has1] at h;obtain ⟨hb, h⟩ := Y1m h;simp at h;refine ⟨[.undef, .con .val [⟨.slice t1.id t1.ty, s1 ++ xs, .at_ lv⟩]], rfl, h.symm, fun env2 hJ2 ha => ?_⟩;have h1 : get env2 d = get env d := ha.2 d (by simp);have h3 : get env2 ts = get env ts := ha.2 ts (by simp);have hax : Agree (opReads env x) env env2 := ha.mono (S' := opReads env x) (fun k hk => Xe _ hk);refine ⟨?_, Yb4 ho hc, ?_⟩
       ·rw [hop env2 h3, X4 htt, Y7u he hfl hJ2 hts hdt' (by rw [h1]; exact hq) (by rw [h3]; exact hg) hlv (by rw [hax.rd]; exact hrd) has hl has1];unfold appendTo;rw [hb]; rfl
       ·unfold footApp;simp only [ho, hc, hargs, htys, he];rw [h1, h3, hax.reads, X4];simp [hts, hdt, hq, hown, hxt, hfl]
      ·simp at h
     ·simp at hf
    ·simp at hf
   ·simp at hf
  ·simp at hf
 ·simp at hf
theorem Y26 : ∀ (W W' : List Nat) (vs vs' : List AV) (env : Env), vs.length = W.length -> puts env (W ++ W') (vs ++ vs') = puts (puts env W vs) W' vs'
 | [], W', [], vs', env, _ => by simp [puts]
 | [], W', _ :: _, vs', env, h => by simp at h
 | w :: W, W', [], vs', env, h => by simp at h
 | w :: W, W', v :: vs, vs', env, h => by simp [puts]; exact Y26 W W' vs vs' _ (by simpa using h)
theorem Y1c (W : List Nat) : (gone W).length = W.length := by simp [gone]
theorem Y3f (W W' : List Nat) : gone (W ++ W') = gone W ++ gone W' := by simp [gone]
theorem Y3n {TS : DS} : ∀ {W : List Nat} {env : Env}, (∀ w ∈ W, w ∉ TS.bx) -> AllJ (Fr TS) env -> AllJ (Fr TS) (puts env W (gone W))
 | [], env, hW, h => by simpa [puts, gone] using h
 | w :: W, env, hW, h => by
  show AllJ (Fr TS) (puts (put env w .undef) W (gone W));refine Y3n (fun w' hw' => hW w' (X3 _ hw')) (fun r => ?_);rw [Y12];split
  ·rename_i hc;exact ⟨by simp [AV.free, AV.refs, AV.ptrs], fun hb => absurd (hc.1 ▸ hb) (hW w Xo)⟩
  ·exact h r
theorem Y3g {TS : DS} {W Rd : List Nat} (hJ : AllJ (Fr TS) env) (h : takes TS env x = some (W, Rd)) : ∀ w ∈ W, w ∉ TS.bx := by
 unfold takes at h;split at h
 ·grind
 ·split at h
  ·rename_i s _;split at h
   ·rename_i k ls hg;split at h
    ·rename_i hc;simp at h;obtain ⟨rfl, _⟩ := h;simp at hc;intro w hw hb;obtain rfl : w = s := by simpa using hw
     have := (hJ w).2 hb;rw [hg] at this;cases k with
     | box e => have := hc.1.2; simp [Kind.plain] at this
     | _ => simp [AV.isBox] at this
    ·simp at h
   ·simp at h
  ·simp at h
theorem Y7v {W S : List Nat} {vs : List AV} {env env2 : Env} (hl : vs.length = W.length) (h : Agree S env env2) : Agree S (puts env W vs) (puts env2 W vs) := by
 refine ⟨by rw [Y25, Y25]; exact h.1, fun k hk => ?_⟩;by_cases hw : k ∈ W
 ·exact Y4s hw hl h.1
 ·rw [Yz hw, Yz hw]; exact h.2 k hk
theorem Y71 {TS : DS} {s : Nat} {ty : Option Ty} (hJ : AllJ (Fr TS) env) (hs : s ∈ TS.ts) (hg : get env s = .con k ls) (hk : k.plain = true) (hat : ls.all (fun l => isAt l.m) = true) (hown : ls.any (fun l => l.m.own) = true) : takeIn ty env (.tmp s) = some (put env s .undef, .con k ls) := by
 have at1 : ∀ l ∈ ls, ∃ lv, l.m = .at_ lv := fun l hl => by
  have := Xa.1 hat l hl;cases hm : l.m with
  | at_ lv => exact ⟨lv, rfl⟩
  | bor _ _ _ => rw [hm] at this; simp [isAt] at this
  | dead => rw [hm] at this; simp [isAt] at this
 have hpull : ∀ q, pull s q env = env := fun q => by
  unfold pull;rw [hg];split
  ·rename_i t x r j hq;obtain ⟨lv, e⟩ := at1 _ (Yb hq);simp at e
  ·rfl
 have hpulls : ∀ n, pulls s n env = env := fun n => by
  induction n with
  | zero => rfl
  | succ n ih => rw [pulls, ih, hpull]
 have hfr : ∀ {L : List Leaf}, (∀ l ∈ L, ∃ lv, l.m = .at_ lv) -> freezeAll L env = env := by
  intro L
  induction L with
  | nil => intro _; rfl
  | cons l L ih =>
   intro h;obtain ⟨lv, e⟩ := h l Xo;unfold freezeAll;rw [e];exact ih (fun l hl => h l (X3 _ hl))
 have hp : pullAll (.tmp s) env = env := by
  simp [pullAll, hg, hk, hpulls]
 unfold takeIn;rw [hp];simp only [takeIn0, hg, hk, X1p, hfr at1];rw [X4 ⟨trivial, Xa.2 fun l hl => by obtain ⟨lv, e⟩ := at1 l hl; rw [e]; rfl⟩];simp [hown];unfold killRoot;rw [Y4t hs (fun r => (hJ r).1)]
theorem Y2v {TS : DS} {W Rd : List Nat} (ty : Option Ty) (hJ : AllJ (Fr TS) env) (h : takes TS env x = some (W, Rd)) : ∃ v, takeIn ty env x = some (puts env W (gone W), v) /\
  ∀ env2, AllJ (Fr TS) env2 -> Agree (W ++ Rd) env env2 -> takeIn ty env2 x = some (puts env2 W (gone W), v) /\ takes TS env2 x = some (W, Rd) := by
 unfold takes at h;split at h
 ·rename_i hin;simp at h;obtain ⟨rfl, rfl⟩ := h;obtain ⟨av, h1, _, _⟩ := Y19 hin ⟨rfl, fun _ _ => rfl⟩ ty;refine ⟨av, by simpa [puts, gone] using h1, fun env2 _ ha => ?_⟩;have ha' : Agree (opReads env x) env env2 := by simpa using ha
  obtain ⟨av', k1, k2, k3⟩ := Y19 hin ha' ty;rw [h1] at k1;simp at k1;subst k1;exact ⟨by simpa [puts, gone] using k2, by unfold takes; rw [X4 k3, ha'.reads]⟩
 ·rename_i hin;split at h
  ·rename_i s;split at h
   ·rename_i k ls hg;split at h
    ·rename_i hc;simp at h;obtain ⟨rfl, rfl⟩ := h;simp only [X9, X1d, X1a] at hc;obtain ⟨⟨hs, hk⟩, hat, hown⟩ := hc;refine ⟨.con k ls, Y71 hJ hs hg hk hat hown, fun env2 hJ2 ha => ?_⟩;have hg2 : get env2 s = .con k ls := (ha.2 s (by simp)).trans hg;refine ⟨Y71 hJ2 hs hg2 hk hat hown, ?_⟩;have hin2 : ¬ inert env2 (.tmp s) = true := by
      simp [inert, hg2];simp [inert, hg] at hin;exact hin
     unfold takes;rw [X2 hin2];simp only [hg2];rw [X4 (by grind)]
    ·simp at h
   ·simp at h
  ·simp at h
theorem Y4h {e1 : Env} {v : AV} (h : takeIn (some t) env x = some (e1, v)) : takeAs t env x = (match v with
  | .con k ls => if typedAs ls t && decide (k = t.kind) then some (e1, ls) else none
  | _ => none) := by
 cases v <;> simp [takeAs, h]
theorem Y4i {TS : DS} {s : TypeId} : ∀ {parts : List (Nat × Operand)} {env e1 : Env} {ls ls1 : List Leaf} {W Rd : List Nat}, AllJ (Fr TS) env -> takesAll TS env (parts.map (·.2)) = some (W, Rd) -> buildParts T s env ls parts = some (e1, ls1) ->
  e1 = puts env W (gone W) /\ ∀ env2, AllJ (Fr TS) env2 -> Agree (W ++ Rd) env env2 -> buildParts T s env2 ls parts = some (puts env2 W (gone W), ls1) /\ takesAll TS env2 (parts.map (·.2)) = some (W, Rd)
 | [], env, e1, ls, ls1, W, Rd, hJ, ht, hb => by
  simp [takesAll] at ht;obtain ⟨rfl, rfl⟩ := ht;simp [buildParts] at hb;obtain ⟨rfl, rfl⟩ := hb;exact ⟨by simp [puts], fun env2 _ _ => ⟨by simp [buildParts, puts], rfl⟩⟩
 | (f, x) :: parts, env, e1, ls, ls1, W, Rd, hJ, ht, hb => by
  simp [takesAll] at ht;split at ht
  ·rename_i W1 R1 h1;split at ht
   ·rename_i W2 R2 h2;simp at ht;obtain ⟨rfl, rfl⟩ := ht;simp [buildParts] at hb;split at hb
    ·rename_i off t hf;obtain ⟨v, k1, k2⟩ := Y2v (some t) hJ h1;rw [Y4h k1] at hb;split at hb
     ·rename_i env' l htk;split at htk
      ·rename_i k0 ls0;split at htk
       ·rename_i hc;simp at htk;obtain ⟨rfl, rfl⟩ := htk;split at hb
        ·rename_i hle;obtain ⟨r1, r2⟩ := Y4i (Y3n (Y3g hJ h1) hJ) h2 hb;refine ⟨by rw [r1, Y3f, Y26 _ _ _ _ _ (Y1c _)], fun env2 hJ2 ha => ?_⟩;have ha1 : Agree (W1 ++ R1) env env2 := ha.mono (fun k hk => by rcases X5.1 hk with hk | hk <;> simp [hk]);have ha2 : Agree (W2 ++ R2) (puts env W1 (gone W1)) (puts env2 W1 (gone W1)) := Y7v (Y1c _) (ha.mono (fun k hk => by grind));obtain ⟨m1, m2⟩ := k2 env2 hJ2 ha1;obtain ⟨n1, n2⟩ := r2 _ (Y3n (Y3g hJ h1) hJ2) ha2;refine ⟨?_, by simp [takesAll, m2, n2]⟩;simp [buildParts, hf];rw [Y4h m1];simp [hc, hle];rw [n1, Y3f, Y26 _ _ _ _ _ (Y1c _)]
        ·simp at hb
       ·simp at htk
      ·simp at htk
     ·simp at hb
    ·simp at hb
   ·simp at ht
  ·simp at ht
theorem Y4x {TS : DS} : ∀ {parts : List (Nat × Operand)} {n : Nat} {env e1 : Env} {vs : List t.D} {dp : Bool} {W Rd : List Nat}, AllJ (Fr TS) env -> takesAll TS env (parts.map (·.2)) = some (W, Rd) -> elemParts t env n parts = some (e1, vs, dp) ->
  e1 = puts env W (gone W) /\ ∀ env2, AllJ (Fr TS) env2 -> Agree (W ++ Rd) env env2 -> elemParts t env2 n parts = some (puts env2 W (gone W), vs, dp) /\ takesAll TS env2 (parts.map (·.2)) = some (W, Rd)
 | [], n, env, e1, vs, dp, W, Rd, hJ, ht, hb => by
  simp [takesAll] at ht;obtain ⟨rfl, rfl⟩ := ht;simp [elemParts] at hb;obtain ⟨rfl, rfl, rfl⟩ := hb;exact ⟨by simp [puts], fun env2 _ _ => ⟨by simp [elemParts, puts], rfl⟩⟩
 | (i, x) :: parts, n, env, e1, vs, dp, W, Rd, hJ, ht, hb => by
  simp [takesAll] at ht;split at ht
  ·rename_i W1 R1 h1;split at ht
   ·rename_i W2 R2 h2;simp at ht;obtain ⟨rfl, rfl⟩ := ht;simp only [elemParts] at hb;split at hb
    ·rename_i hi;obtain ⟨v, k1, k2⟩ := Y2v (some t) hJ h1;rw [Y4h k1] at hb;split at hb
     ·rename_i env' l htk;split at htk
      ·rename_i k0 ls0;split at htk
       ·rename_i hc;simp at htk;obtain ⟨rfl, rfl⟩ := htk;split at hb
        ·rename_i v0 has;split at hb
         ·rename_i env'' vs0 d0 hrec;simp at hb;obtain ⟨rfl, rfl, rfl⟩ := hb;obtain ⟨r1, r2⟩ := Y4x (Y3n (Y3g hJ h1) hJ) h2 hrec;refine ⟨by rw [r1, Y3f, Y26 _ _ _ _ _ (Y1c _)], fun env2 hJ2 ha => ?_⟩;have ha1 : Agree (W1 ++ R1) env env2 := ha.mono (fun k hk => by rcases X5.1 hk with hk | hk <;> simp [hk]);have ha2 : Agree (W2 ++ R2) (puts env W1 (gone W1)) (puts env2 W1 (gone W1)) := Y7v (Y1c _) (ha.mono (fun k hk => by rcases X5.1 hk with hk | hk <;> simp [hk]));obtain ⟨m1, m2⟩ := k2 env2 hJ2 ha1;obtain ⟨n1, n2⟩ := r2 _ (Y3n (Y3g hJ h1) hJ2) ha2;refine ⟨?_, by simp [takesAll, m2, n2]⟩;simp [elemParts, hi];rw [Y4h m1];simp [hc, has];subst hi;rw [n1, Y3f, Y26 _ _ _ _ _ (Y1c _)]
         ·simp at hb
        ·simp at hb
       ·simp at htk
      ·simp at htk
     ·simp at hb
    ·simp at hb
   ·simp at ht
  ·simp at ht
theorem Y27 {TS : DS} {W Rd : List Nat} (h : takes TS env x = some (W, Rd)) : nestB env x = false := by
 unfold takes at h;split at h
 ·rename_i hin;exact Y58 hin
 ·split at h
  ·rename_i s;split at h
   ·rename_i k ls hg;split at h
    ·rename_i hc;simp only [X9, X1d, X1a] at hc;obtain ⟨⟨hs, hk⟩, hat, hown⟩ := hc;have hno : (ls.any fun l => l.m.nested) = false := by
      rw [X2e];intro l hl;have := Xa.1 hat l hl;cases hm : l.m <;> simp_all [isAt, Mode.nested]
     cases k <;> simp_all [nestB, Kind.plain]
    ·simp at h
   ·simp at h
  ·simp at h
theorem Yck {TS : DS} {env e1 : Env} {s : Nat} {v : AV} (ty : Option Ty) (hJ : AllJ (Fr TS) env) (h : takes TS env (.tmp s) = some ([s], [])) (hv : takeIn ty env (.tmp s) = some (e1, v)) (d : Nat) : v.chg (forgetG d) = v := by
 unfold takes at h;split at h
 ·simp at h
 ·simp only at h
  ·split at h
   ·rename_i k ls hg;split at h
    ·rename_i hc;simp only [X9, X1d, X1a] at hc;obtain ⟨⟨hs, hk⟩, hat, hown⟩ := hc;have := Y71 (ty := ty) hJ hs hg hk hat hown;rw [this] at hv;simp only [X0, X11] at hv;obtain ⟨_, rfl⟩ := hv;simp only [AV.chg];congr 1;clear hown hg this h
     induction ls with
     | nil => rfl
     | cons l ls ih =>
      simp only [List.all_cons, X9] at hat;rw [chgs, ih hat.2];congr 1;obtain ⟨t, x, m⟩ := l;cases m with
      | at_ _ => rfl
      | dead => rfl
      | bor _ _ _ => simp [isAt] at hat
    ·simp at h
   ·simp at h
def R0of : Option (List Nat × List Nat) -> List Nat
 | some (_, R) => R
 | none => []
theorem Y7w {s : Nat} {ty : Option Ty} (h : inert env (.tmp s) = true) : takeIn ty env (.tmp s) = some (env, get env s) := by
 cases hg : get env s with
 | con k ls =>
  simp only [inert, hg, X9] at h;exact Y57 hg h.1 h.2
 | undef => simp [inert, hg] at h
 | grow _ _ _ _ _ => simp [inert, hg] at h
 | sel _ _ _ _ _ _ _ => simp [inert, hg] at h
 | part _ _ _ _ => simp [inert, hg] at h
 | eown _ => simp [inert, hg] at h
 | junk => simp [inert, hg] at h
 | _ => simp only [takeIn, pullAll, takeIn0, hg]
theorem Y95 {env e1 : Env} {W Rd : List Nat} (hJ : AllJ (Fr TS) env) (hf : footTake TS env d o = some (W, Rd)) (h : evVal T sig caps orc d o env some = some e1) :
  ∃ vs, vs.length = W.length /\ e1 = puts env W vs /\ ∀ env2, AllJ (Fr TS) env2 -> Agree (W ++ Rd) env env2 -> evVal T sig caps orc d o env2 some = some (puts env2 W vs) /\ footTake TS env2 d o = some (W, Rd) := by
 have fin : ∀ {W0 R0 : List Nat} {v : AV}, (get env d).quiet = true -> W0.contains d = false -> W = W0 ++ [d] -> Rd = R0 -> e1 = setD (some d) (puts env W0 (gone W0)) v -> (∀ env2, AllJ (Fr TS) env2 -> Agree (W0 ++ R0) env env2 -> (get env2 d).quiet = true -> evVal T sig caps orc d o env2 some = some (setD (some d) (puts env2 W0 (gone W0)) v) /\ footTake TS env2 d o = some (W, Rd)) ->
   ∃ vs, vs.length = W.length /\ e1 = puts env W vs /\ ∀ env2, AllJ (Fr TS) env2 -> Agree (W ++ Rd) env env2 -> evVal T sig caps orc d o env2 some = some (puts env2 W vs) /\ footTake TS env2 d o = some (W, Rd) := by
  intro W0 R0 v hq hd hW hR he hk;subst hW; subst hR;have hd' : d ∉ W0 := by simpa using hd
  have key : ∀ (env' : Env), (get env' d).quiet = true -> setD (some d) (puts env' W0 (gone W0)) v = puts env' (W0 ++ [d]) (gone W0 ++ [v]) := fun env' hq' => by
   rw [Y3 (by rw [Yz hd']; exact hq'), Y26 _ _ _ _ _ (Y1c _)]; rfl
  refine ⟨gone W0 ++ [v], by simp [Y1c], by rw [he, key env hq], fun env2 hJ2 ha => ?_⟩;have hq2 : (get env2 d).quiet = true := by rw [ha.2 d (by simp)]; exact hq
  obtain ⟨k1, k2⟩ := hk env2 hJ2 (ha.mono (fun k hk => by rcases X5.1 hk with hk | hk <;> simp [hk])) hq2;exact ⟨by rw [k1, key env2 hq2], k2⟩
 unfold footTake at hf;split at hf
 ·rename_i hq;split at hf
  ·rename_i t ps ho;split at hf
   ·rename_i W0 R0 ht;split at hf
    ·simp at hf
    ·rename_i hd;simp only [X0, X11] at hf;simp only [evVal, ho] at h;split at h
     ·rename_i τ hτ;split at h
      ·rename_i hag;split at h
       ·rename_i env' ls hb;obtain ⟨r1, r2⟩ := Y4i hJ ht hb;simp only [X0] at h;refine fin hq (by simpa using hd) hf.1.symm hf.2.symm (by rw [<- h, r1]) (fun env2 hJ2 ha hq2 => ?_);obtain ⟨m1, m2⟩ := r2 env2 hJ2 ha;refine ⟨by simp only [evVal, ho, hτ, hag, X1p, m1], ?_⟩;unfold footTake;rw [X4 hq2];simp only [ho, m2];rw [X2 hd, hf.1, hf.2]
       ·simp at h
      ·simp at h
     ·simp at h
   ·simp at hf
  ·rename_i t n ps ho;split at hf
   ·rename_i W0 R0 ht;split at hf
    ·simp at hf
    ·rename_i hd;simp only [X0, X11] at hf;simp only [evVal, ho] at h;split at h
     ·rename_i te hte;split at h
      ·rename_i hc;split at h
       ·rename_i env' xs dp hb;obtain ⟨r1, r2⟩ := Y4x hJ ht hb;simp only [X0] at h;refine fin hq (by simpa using hd) hf.1.symm hf.2.symm (by rw [<- h, r1]) (fun env2 hJ2 ha hq2 => ?_);obtain ⟨m1, m2⟩ := r2 env2 hJ2 ha;refine ⟨by simp only [evVal, ho, hte, m1]; rw [X4 hc], ?_⟩;unfold footTake;rw [X4 hq2];simp only [ho, m2];rw [X2 hd, hf.1, hf.2]
       ·simp at h
      ·simp at h
     ·simp at h
   ·simp at hf
  ·rename_i x ho;split at hf
   ·rename_i W0 R0 ht;split at hf
    ·simp at hf
    ·rename_i hd;simp only [X0, X11] at hf;simp only [evVal, ho, Y27 ht, Xl, X18] at h;obtain ⟨v, r1, r2⟩ := Y2v (T.ty o.type) hJ ht;rw [r1] at h;simp only [X0] at h;refine fin hq (by simpa using hd) hf.1.symm hf.2.symm h.symm (fun env2 hJ2 ha hq2 => ?_);obtain ⟨m1, m2⟩ := r2 env2 hJ2 ha;refine ⟨by simp only [evVal, ho, Y27 m2, Xl, X18, m1], ?_⟩;unfold footTake;rw [X4 hq2];simp only [ho, m2];rw [X2 hd, hf.1, hf.2]
   ·simp at hf
  ·simp at hf
 ·rename_i hq;split at hf
  ·rename_i s ho;split at hf
   ·rename_i hc;simp only [X9, X1d, X1a, X1h] at hc;obtain ⟨hdt, hds⟩ := hc;have hne : d ≠ s := fun e => by rw [e] at hds; simp at hds
    split at hf
    ·rename_i s' ht;split at hf
     ·rename_i hss;have hss' : s = s' := by simpa using hss
      subst hss';simp only [X0, X11] at hf;obtain ⟨rfl, rfl⟩ := hf;simp only [evVal, ho, Y27 ht, Xl, X18] at h;obtain ⟨v, r1, r2⟩ := Y2v (T.ty o.type) hJ ht;have hv : v.chg (forgetG d) = v := Yck (T.ty o.type) hJ ht r1 d;rw [r1] at h;simp only [X0] at h;have key : ∀ (env' : Env), AllJ (Fr TS) env' -> (get env' d).quiet = (get env d).quiet -> setD (some d) (puts env' [s] (gone [s])) v = puts env' [s, d] [.undef, v] := by
       intro env' hJ' hq';have hq2 : (get (puts env' [s] (gone [s])) d).quiet = false := by
        rw [Yz (by simpa using hne), hq']; simpa using hq
       have hfr : ∀ r, (get (puts env' [s] (gone [s])) r).free TS = true := by
        intro r;show (get (put env' s .undef) r).free TS = true;rw [Y12];split
        ·rfl
        ·exact (hJ' r).1
       unfold setD;simp only [hq2, Xl, X18];unfold forget;rw [Y49 hdt hfr, hv, Y4v];rfl
      refine ⟨[.undef, v], rfl, by rw [<- h]; exact key env hJ rfl, fun env2 hJ2 ha => ?_⟩;obtain ⟨m1, m2⟩ := r2 env2 hJ2 (ha.mono (fun k hk => by simp at hk; simp [hk]));have hd2 : get env2 d = get env d := ha.2 d (by simp);refine ⟨by simp only [evVal, ho, Y27 m2, Xl, X18, m1]; rw [key env2 hJ2 (by rw [hd2])], ?_⟩;unfold footTake;rw [X2 (by rw [hd2]; exact hq)];simp only [ho, m2];rw [X4 (by rw [X9]; exact ⟨by simpa using hdt, by rw [hds]; rfl⟩), X4 (by simp)]
     ·simp at hf
    ·rename_i R ht;split at hf
     ·rename_i hin;simp only [X0, X11] at hf;obtain ⟨rfl, rfl⟩ := hf;have htk := Y7w (ty := T.ty o.type) hin;have hv : (get env s).chg (forgetG d) = get env s := Y8r hdt (hJ s).1;simp only [evVal, ho, Y27 ht, Xl, X18, htk, X0] at h;have key : ∀ (env' : Env), AllJ (Fr TS) env' -> (get env' d).quiet = (get env d).quiet -> setD (some d) env' (get env s) = puts env' [d] [get env s] := by
       intro env' hJ' hq';have hq2 : (get env' d).quiet = false := by
        rw [hq']; simpa using hq
       unfold setD;simp only [hq2, Xl, X18];unfold forget;rw [Y49 hdt (fun r => (hJ' r).1), hv, Y4v];rfl
      refine ⟨[get env s], rfl, by rw [<- h]; exact key env hJ rfl, fun env2 hJ2 ha => ?_⟩;obtain ⟨_, _, r2⟩ := Y2v (T.ty o.type) hJ ht;obtain ⟨m1, m2⟩ := r2 env2 hJ2 (ha.mono (fun k hk => by simp at hk; simp [hk]));have hd2 : get env2 d = get env d := ha.2 d (by simp);have hR : R0of (takes TS env (.tmp s)) = opReads env (.tmp s) := by unfold takes; rw [X4 hin]; rfl
      rw [ht] at hR;have hs2 : get env2 s = get env s := ha.2 s (by
       have : s ∈ R := by
        show s ∈ R0of (some ([], R));rw [hR]; simp [opReads]
       simp [this])
      have hin2 : inert env2 (.tmp s) = true := by simpa only [inert, hs2] using hin
      refine ⟨by simp only [evVal, ho, Y27 m2, Xl, X18, Y7w (ty := T.ty o.type) hin2]; rw [hs2, key env2 hJ2 (by rw [hd2])], ?_⟩;unfold footTake;rw [X2 (by rw [hd2]; exact hq)];simp only [ho, m2];rw [X4 (by rw [X9]; exact ⟨by simpa using hdt, by rw [hds]; rfl⟩), X4 hin2]
     ·simp at hf
    ·simp at hf
   ·simp at hf
  ·simp at hf
theorem Ycl {b : BoxSig} {args : List Operand} {d r : Nat} {env e1 : Env} (hJ : AllJ (Fr TS) env) (hq : (get env d).quiet = true) (hr : nthL (rdArgs env sg.params args) b.k = some (.path r 0)) (hbx : r ∈ TS.bx) (hdr : d ≠ r) (hns : (sg.params.all fun p => decide (p ≠ .self)) = true) (h : callB caps orc (some d) f sg b args [] env some = some e1) :
  ∃ v1 v2, e1 = puts env [r, d] [v1, v2] /\ ∀ env2, AllJ (Fr TS) env2 -> (∀ x ∈ args, Agree (opReads env x) env env2) -> get env2 r = get env r -> (get env2 d).quiet = true -> callB caps orc (some d) f sg b args [] env2 some = some (puts env2 [r, d] [v1, v2]) := by
 unfold callB at h;simp at h;rw [hr] at h;split at h
 ·rename_i r' t hk1 hk2;simp at hk1;subst hk1;split at h
  ·rename_i e ls hg;split at h
   ·rename_i hc;split at h
    ·simp at h
    ·rename_i rvs hrv;split at h
     ·simp at h
     ·rename_i q hq';obtain ⟨xs, hxs, h⟩ := Xr.1 h;split at h
      ·simp at h
      ·rename_i y ys hy;split at h
       ·rename_i hyt;split at h
        ·simp at h
        ·rename_i v hv;simp at h;have key : ∀ {env' : Env} {c : AV}, AllJ (Fr TS) env' -> (get env' d).quiet = true -> setD (some d) (put (chgEnv (renewG r) env') r c) v = puts env' [r, d] [c, v] := by
          intro env' c hJ' hq';rw [Y5z hbx (fun r => (hJ' r).1), Y3]
          ·rfl
          ·rw [Y12, X2 (fun e => hdr e.1)]; exact hq'
         refine ⟨_, v, by rw [<- h]; exact key hJ hq, fun env2 hJ2 ha hr2 hq2 => ?_⟩;have hrd := Y2u (ps := sg.params) ha;unfold callB;simp;rw [hrd, hr];simp [hk2];rw [hr2, hg];simp only;rw [X4 hc];have hrv2 : RVsX caps env2 r sg.params (rdArgs env sg.params args) = some rvs := by
          rw [Ybh hns] at hrv ⊢;rw [Y5v, hrv];intro v hv q hq;obtain ⟨x, hx, hqx⟩ := Y48 v hv q hq;exact (ha x hx).2 q hqx
         rw [hrv2];simp only [hq', hxs, X37, hy];rw [dif_pos hyt];simp [hv];unfold renewBox;rw [key hJ2 hq2]
       ·simp at h
   ·simp at h
  ·simp at h
 ·simp at h
theorem Yai {env e1 : Env} {W Rd : List Nat} (hJ : AllJ (Fr TS) env) (hf : footBox sig TS env d o = some (W, Rd)) (h : evVal T sig caps orc d o env some = some e1) :
  ∃ vs, vs.length = W.length /\ e1 = puts env W vs /\ ∀ env2, AllJ (Fr TS) env2 -> Agree (W ++ Rd) env env2 -> evVal T sig caps orc d o env2 some = some (puts env2 W vs) /\ footVal sig env2 d o = none /\ footBox sig TS env2 d o = some (W, Rd) := by
 unfold footBox at hf;split at hf
 ·rename_i c ho;split at hf
  ·rename_i f hc;split at hf
   ·rename_i sg hsg;split at hf
    ·rename_i b hb;split at hf
     ·rename_i r hr;split at hf
      ·rename_i hcond;simp at hf;obtain ⟨rfl, rfl⟩ := hf;have hcond0 := hcond;simp only [X9, X1h, X1d, X1a] at hcond;obtain ⟨⟨hq, hbx⟩, hdr0, hns⟩ := hcond;have hdr : d ≠ r := fun e => by simp_all
       have hev : ∀ env', evVal T sig caps orc d o env' some = callB caps orc (some d) f sg b c.args.toList [] env' some := by
        intro env';simp only [evVal, ho, hc];unfold call1;simp only [hsg, hb]
       rw [hev] at h;obtain ⟨v1, v2, e, k⟩ := Ycl hJ hq hr hbx hdr hns h;refine ⟨[v1, v2], rfl, e, fun env2 hJ2 ha => ?_⟩;have har : Agree (allReads env c.args.toList) env env2 := ha.mono (fun k hk => Xe _ hk);obtain ⟨a1, a2⟩ := Ym har;have hr2 : get env2 r = get env r := ha.2 r (by simp);have hd2 : get env2 d = get env d := ha.2 d (by simp);have hq2 : (get env2 d).quiet = true := by grind
       refine ⟨by rw [hev]; exact k env2 hJ2 a1 hr2 hq2, ?_, ?_⟩
       ·unfold footVal;rw [X4 hq2];simp only [ho, pureReads, hc];rw [X2];simp [freshSig, hsg, hb]
       ·unfold footBox;simp only [ho, hc, hsg, hb];rw [Y2u (ps := sg.params) a1, hr];simp only;rw [hd2, X4 hcond0, a2]
      ·simp at hf
     ·simp at hf
    ·simp at hf
   ·simp at hf
  ·simp at hf
 ·simp at hf
theorem Yb5 {c : Call} (ho : o.op = .call c) (hc : c.callee = .builtin .append) : footBox sig TS env d o = none := by
 unfold footBox;simp [ho, hc]
theorem Yaj {f : Foot} {W Rd : List Nat} (h : footApp T TS env d o = some (W, Rd)) : ∃ c, o.op = .call c /\ c.callee = .builtin .append := by
 unfold footApp at h;split at h
 ·grind
 ·simp at h
theorem Yak {f : Foot} (h : footBox sig TS env d o = f) (hf : f ≠ none) : ∃ c, o.op = .call c := by
 unfold footBox at h;split at h
 ·grind
 ·grind
theorem Y60 {c : Call} (ho : o.op = .call c) : footPtr TS env d o = none := by
 unfold footPtr;simp [ho]
theorem Y96 {env env2 : Env} (hfp0 : footPtr TS env d o = none) (hq : (get env2 d).quiet = (get env d).quiet) : footPtr TS env2 d o = none := by
 unfold footPtr at hfp0 ⊢;split
 ·grind
 ·rfl
theorem Yal {env e1 : Env} {W Rd : List Nat} (hJ : AllJ (Fr TS) env) (hf : footPtr TS env d o = some (W, Rd)) (h : evVal T sig caps orc d o env some = some e1) :
  ∃ vs, vs.length = W.length /\ e1 = puts env W vs /\ ∀ env2, AllJ (Fr TS) env2 -> Agree (W ++ Rd) env env2 -> evVal T sig caps orc d o env2 some = some (puts env2 W vs) /\ footPtr TS env2 d o = some (W, Rd) := by
 unfold footPtr at hf;split at hf
 ·rename_i s ho;split at hf
  ·rename_i hc;simp at hf;obtain ⟨rfl, rfl⟩ := hf;simp at hc;obtain ⟨hq, hs⟩ := hc;have hrd : ∀ env', AllJ (Fr TS) env' -> ∀ ty, rd ty env' (.tmp s) = .path s 0 := fun env' hJ' ty => by
    have := (hJ' s).2 hs;simp [rd];cases hg : get env' s with
    | con k ls =>
     rw [hg] at this;cases k <;> simp [AV.isBox] at this ⊢
    | _ => rw [hg] at this; simp [AV.isBox] at this
   simp only [evVal, ho, hrd env hJ, X0] at h;rw [Y3 hq] at h;refine ⟨[.path s 0], rfl, h.symm, fun env2 hJ2 ha => ?_⟩;have hq2 : (get env2 d).quiet = true := by rw [ha.2 d (by simp)]; exact hq
   exact ⟨by simp only [evVal, ho, hrd env2 hJ2]; rw [Y3 hq2]; rfl, by unfold footPtr; simp only [ho]; rw [X4 (by simp [hq2, hs])]⟩
  ·simp at hf
 ·simp at hf
theorem Y61 {env e1 : Env} {W Rd : List Nat} (hJ : AllJ (Fr TS) env) (hf : footRun T sig TS o env = some (W, Rd)) (h : evOp T sig caps orc o env some = some e1) :
  ∃ vs, vs.length = W.length /\ e1 = puts env W vs /\ ∀ env2, AllJ (Fr TS) env2 -> Agree (W ++ Rd) env env2 -> evOp T sig caps orc o env2 some = some (puts env2 W vs) /\ footRun T sig TS o env2 = some (W, Rd) := by
 unfold footRun at hf;unfold evOp at h;split at hf
 ·rename_i d hd;rw [hd] at h;simp only at h;split at h
  ·rename_i hlt;split at hf
   ·rename_i hib;obtain ⟨vs, e0, e, k⟩ := Y95 hJ hf h;refine ⟨vs, e0, e, fun env2 hJ2 ha => ?_⟩;obtain ⟨k1, k2⟩ := k env2 hJ2 ha;exact ⟨by unfold evOp; rw [hd]; simp only; rw [X4 (by rw [ha.1]; exact hlt)]; exact k1, by unfold footRun; rw [hd]; simp only; rw [X4 hib]; exact k2⟩
   rename_i hib;split at hf
   ·rename_i fp hfp;simp only [X0] at hf;subst hf;obtain ⟨vs, e0, e, k⟩ := Yal hJ hfp h;refine ⟨vs, e0, e, fun env2 hJ2 ha => ?_⟩;obtain ⟨k1, k2⟩ := k env2 hJ2 ha;exact ⟨by unfold evOp; rw [hd]; simp only; rw [X4 (by rw [ha.1]; exact hlt)]; exact k1, by unfold footRun; rw [hd]; simp only; rw [X2 hib, k2]⟩
   rename_i hfp0
   -- whether it is such a move does not depend on the environment
   have hfp : ∀ env2, AllJ (Fr TS) env2 -> (get env2 d).quiet = (get env d).quiet -> footPtr TS env2 d o = none := fun env2 _ hq => Y96 hfp0 hq;split at hf
   ·rename_i t R hfv;simp only [X0, X11] at hf;obtain ⟨rfl, rfl⟩ := hf;obtain ⟨rfl, v, e, k⟩ := Yae hfv h;refine ⟨[v], rfl, e, fun env2 hJ2 ha => ?_⟩;obtain ⟨k1, k2⟩ := k env2 ha;exact ⟨by unfold evOp; rw [hd]; simp only; rw [X4 (by rw [ha.1]; exact hlt)]; exact k1, by unfold footRun; rw [hd]; simp only; rw [X2 hib, hfp env2 hJ2 (by rw [ha.2 _ (by simp)])]; simp only; rw [k2]⟩
   ·rename_i hfv;split at hf
    ·rename_i fb hfb;simp only [X0] at hf;subst hf;obtain ⟨vs, e0, e, k⟩ := Yai hJ hfb h;refine ⟨vs, e0, e, fun env2 hJ2 ha => ?_⟩;obtain ⟨k1, k2, k3⟩ := k env2 hJ2 ha;exact ⟨by unfold evOp; rw [hd]; simp only; rw [X4 (by rw [ha.1]; exact hlt)]; exact k1, by unfold footRun; rw [hd]; simp only; rw [X2 hib, Y60 (Yak hfb (by simp)).choose_spec]; simp only; rw [k2]; simp only; rw [k3]⟩
    rename_i hfb;obtain ⟨c0, ho0, hc0⟩ := Yaj (f := none) hf;obtain ⟨vs, e0, e, k⟩ := Yah hJ hf h;refine ⟨vs, e0, e, fun env2 hJ2 ha => ?_⟩;obtain ⟨k1, k2, k3⟩ := k env2 hJ2 ha;exact ⟨by unfold evOp; rw [hd]; simp only; rw [X4 (by rw [ha.1]; exact hlt)]; exact k1, by unfold footRun; rw [hd]; simp only; rw [X2 hib, Y60 ho0]; simp only; rw [k2]; simp only; rw [Yb5 ho0 hc0]; exact k3⟩
  ·simp at h
 ·rename_i hd;obtain ⟨vs, e0, e, k⟩ := Y8c (sig := sig) (caps := caps) (orc := orc) hd hJ hf (by unfold evOp; rw [hd]; rw [hd] at h; exact h);refine ⟨vs, e0, e, fun env2 hJ2 ha => ?_⟩;obtain ⟨k1, k2⟩ := k env2 hJ2 ha;exact ⟨k1, by unfold footRun; rw [hd]; exact k2⟩
theorem Y5e {env e1 : Env} {W Rd : List Nat} (hf : footSkip o env = some (W, Rd)) (h : skipOp o env some = some e1) :
  ∃ vs, vs.length = W.length /\ e1 = puts env W vs /\ ∀ env2, Agree (W ++ Rd) env env2 -> skipOp o env2 some = some (puts env2 W vs) /\ footSkip o env2 = some (W, Rd) := by
 unfold footSkip at hf;unfold skipOp at h;split at hf
 ·rename_i d hd;rw [hd] at h;simp only at h;split at hf
  ·rename_i hq;simp at hf;obtain ⟨rfl, rfl⟩ := hf;split at h
   ·rename_i hlt;simp at h;rw [Y3 hq] at h;refine ⟨[.skip], rfl, h.symm, fun env2 ha => ?_⟩;have hq2 : (get env2 d).quiet = true := by rw [ha.2 d (by simp)]; exact hq
    exact ⟨by unfold skipOp; rw [hd]; simp only; rw [X4 (by rw [ha.1]; exact hlt), Y3 hq2]; rfl, by unfold footSkip; rw [hd]; simp only; rw [X4 hq2]⟩
   ·simp at h
  ·simp at hf
 ·simp at hf
theorem Y59 {xs : List Nat} {f : Foot} {W Rd : List Nat} (h : Foot.reads xs f = some (W, Rd)) : ∃ R, f = some (W, R) /\ Rd = xs ++ R := by
 cases f with
 | none => simp [Foot.reads] at h
 | some p =>
  obtain ⟨W', R⟩ := p;simp [Foot.reads] at h;exact ⟨R, by rw [h.1], h.2.symm⟩
theorem Ycm {ops : Array Oper} {env e1 : Env} {W Rd : List Nat} (hJ : AllJ (Fr TS) env) (hf : footG T sig TS ops o env = some (W, Rd)) (h : evOps T sig caps orc ops [o] env some = some e1) :
  ∃ vs, vs.length = W.length /\ e1 = puts env W vs /\ ∀ env2, AllJ (Fr TS) env2 -> Agree (W ++ Rd) env env2 -> evOps T sig caps orc ops [o] env2 some = some (puts env2 W vs) /\ footG T sig TS ops o env2 = some (W, Rd) := by
 simp [evOps] at h;unfold footG at hf;cases hg : o.guard with
 | none =>
  rw [hg] at h hf;simp only at h hf;obtain ⟨vs, e0, e, k⟩ := Y61 hJ hf h;refine ⟨vs, e0, e, fun env2 hJ2 ha => ?_⟩;obtain ⟨k1, k2⟩ := k env2 hJ2 ha;exact ⟨by simp [evOps, hg]; exact k1, by unfold footG; rw [hg]; exact k2⟩
 | some g =>
  obtain ⟨j, want⟩ := g;rw [hg] at h hf;simp only at h hf;cases hj : (ops[j]?).bind (·.dst) with
  | none => rw [hj] at h; simp at h
  | some dj =>
   rw [hj] at h hf;simp only at h hf;have split2 : ∀ {R : List Nat} {env2 : Env}, Rd = [dj] ++ R -> Agree (W ++ Rd) env env2 -> get env2 dj = get env dj /\ Agree (W ++ R) env env2 := by
    intro R env2 hR ha;subst hR;exact ⟨ha.2 dj (by simp), ha.mono (fun k hk => by grind)⟩
   split at h
   ·rename_i hs;rw [hs] at hf;simp only at hf;obtain ⟨R, hf1, hR⟩ := Y59 hf;obtain ⟨vs, e0, e, k⟩ := Y5e hf1 h;refine ⟨vs, e0, e, fun env2 hJ2 ha => ?_⟩;obtain ⟨a1, a2⟩ := split2 hR ha;rw [hs] at a1;obtain ⟨k1, k2⟩ := k env2 a2;exact ⟨by simp [evOps, hg, hj, a1]; exact k1, by unfold footG; rw [hg]; simp only [hj, a1, k2, Foot.reads, hR]⟩
   ·rename_i b hs;rw [hs] at hf;simp only at hf;have hput : put env dj (vBool b) = env := Y2m hs;have fin : ∀ (b' : Bool), b' = b -> (if b' = want then evOp T sig caps orc o env some else skipOp o env some) = some e1 -> ∃ vs, vs.length = W.length /\ e1 = puts env W vs /\ ∀ env2, AllJ (Fr TS) env2 -> Agree (W ++ Rd) env env2 -> evOps T sig caps orc ops [o] env2 some = some (puts env2 W vs) /\ footG T sig TS ops o env2 = some (W, Rd) := by
     intro b' hb' hh;subst hb';by_cases hw : b' = want
     ·rw [X4 hw] at hh hf;obtain ⟨R, hf1, hR⟩ := Y59 hf;obtain ⟨vs, e0, e, k⟩ := Y61 hJ hf1 hh;refine ⟨vs, e0, e, fun env2 hJ2 ha => ?_⟩;obtain ⟨a1, a2⟩ := split2 hR ha;rw [hs] at a1;obtain ⟨k1, k2⟩ := k env2 hJ2 a2;have hput2 : put env2 dj (vBool b') = env2 := Y2m a1;refine ⟨?_, by unfold footG; rw [hg]; simp only [hj, a1, k2, Foot.reads, hR]; rw [X4 hw]⟩;simp [evOps, hg, hj, a1];subst hw;cases b' with
      | true => grind
      | false => grind
     ·rw [X2 hw] at hh hf;obtain ⟨R, hf1, hR⟩ := Y59 hf;obtain ⟨vs, e0, e, k⟩ := Y5e hf1 hh;refine ⟨vs, e0, e, fun env2 hJ2 ha => ?_⟩;obtain ⟨a1, a2⟩ := split2 hR ha;rw [hs] at a1;obtain ⟨k1, k2⟩ := k env2 a2;have hput2 : put env2 dj (vBool b') = env2 := Y2m a1;refine ⟨?_, by unfold footG; rw [hg]; simp only [hj, a1, k2, Foot.reads, hR]; rw [X2 hw]⟩;simp [evOps, hg, hj, a1];cases b' with
      | true => cases want with
       | true => exact absurd rfl hw
       | false => grind
      | false => cases want with
       | true => grind
       | false => exact absurd rfl hw
    refine fin b rfl ?_;cases b with
    | true => grind
    | false => grind
   ·simp at h
def stepI (T : Tab) (sig : FuncId -> Option Sig) (caps : FuncId -> List Ty) (orc : Orc) (ops : Array Oper) (i : Nat) (env : Env) : Option Env := match ops[i]? with
 | some o => evOps T sig caps orc ops [o] env some
 | none => none
def footI (T : Tab) (sig : FuncId -> Option Sig) (TS : DS) (ops : Array Oper) (i : Nat) (env : Env) : Foot := match ops[i]? with
 | some o => footG T sig TS ops o env
 | none => none
theorem Yf4 (ops : Array Oper) : Mild (Fr TS) (stepI T sig caps orc ops) (footI T sig TS ops) := by
 intro i env W Rd env' hJ hf hs;unfold stepI at hs;unfold footI at hf;cases ho : ops[i]? with
 | none => grind
 | some o =>
  rw [ho] at hs hf;obtain ⟨vs, e0, e, k⟩ := Ycm hJ hf hs;refine ⟨vs, e0, e, fun env2 hJ2 hl ha => ?_⟩;obtain ⟨k1, k2⟩ := k env2 hJ2 ⟨hl, ha⟩;exact ⟨by unfold stepI; rw [ho]; exact k1, by unfold footI; rw [ho]; exact k2⟩
theorem Yam {ops : Array Oper} {φ : Nat -> Foot} {E : Env} {K : Env -> Option R} {r : R} (hK : K E = some r) : ∀ {l : List Nat} {env : Env}, Trace (Fr TS) (stepI T sig caps orc ops) (footI T sig TS ops) l env E φ -> evOps T sig caps orc ops (l.filterMap (ops[·]?)) env K = some r
 | [], env, h => by
  obtain ⟨_, h⟩ := h;subst h;exact hK
 | i :: l, env, ⟨_, _, e1, h1, h2⟩ => by
  unfold stepI at h1;cases ho : ops[i]? with
  | none => grind
  | some o =>
   rw [ho] at h1;simp only at h1;rw [X1x (by exact ho), Ycg, h1];exact Yam hK h2
end
def ancMask (ms : List Nat) : List Edge -> Nat
 | [] => 0
 | e :: r => if Region.binds .any e then (2 ^ e.on ||| ms.getD e.on 0) ||| ancMask ms r else ancMask ms r
def notIn (t : Nat) : List Nat -> Bool
 | [] => true
 | x :: r => !(Nat.beq x t) && notIn t r
def disB : Foot -> Foot -> Bool
 | some (W, R), some (W', R') => (W.all fun w => notIn w W' && notIn w R') && W'.all fun w => notIn w R
 | _, _ => false
def okE (TS : DS) (env : Env) : Bool := (TS.ts.isEmpty && TS.bx.isEmpty) || (env.all (AV.free TS) && TS.bx.all fun r => (get env r).isBox)
def usesOf : Op -> List Operand
 | .move x | .assign x | .box _ x | .nilCheck x | .load _ x | .fieldAddr _ x _ | .field _ x _ | .unOp _ _ x | .convert _ _ x | .extract x _ => [x]
 | .pick c a b => [c, a, b]
 | .build _ ps => ps.toList.map (·.2)
 | .buildSlice _ _ ps => ps.toList.map (·.2)
 | .indexAddr _ x i | .index _ x i | .makeSlice _ x i | .store _ x i => [x, i]
 | .binOp _ _ x y _ => [x, y]
 | .slice _ x lo hi _ => x :: (lo.toList ++ hi.toList)
 | .call c => c.args.toList
 | _ => []
def makesRow : Op -> Bool
 | .buildSlice _ _ _ => true
 | .build _ _ => true
 | .makeSlice _ _ _ => true
 | .call c => match c.callee with
  | .builtin .append => true
  | .value _ => true
  | _ => false
 | _ => false
def takenBy : Op -> List Operand
 | .build _ ps => ps.toList.map (·.2)
 | .buildSlice _ _ ps => ps.toList.map (·.2)
 | .call c => match c.callee with
  | .builtin .append => c.args.toList.take 1
  | _ => []
 | _ => []
def tsOf (ops : List Oper) : List Nat := ops.flatMap fun o => (takenBy o.op).filterMap fun x => match x with
 | .tmp s => if (ops.any fun o => o.dst == some s && makesRow o.op) && Nat.beq ((ops.map fun o => ((usesOf o.op).filter (isTmp s)).length).sum) 1 then some s else none
 | _ => none
def okAll (mask : Nat) : Nat -> List Foot -> Foot -> Bool
 | _, [], _ => true
 | i, f :: fs, g => (mask.testBit i || disB f g) && okAll mask (i + 1) fs g
def opsOf : Op -> Option (List Operand)
 | .move x | .assign x | .box _ x | .load _ x | .nilCheck x | .unOp _ _ x | .convert _ _ x | .fieldAddr _ x _ | .field _ x _ | .extract x _ => some [x]
 | .alloc _ => some []
 | .pick c a b => some [c, a, b]
 | .build _ ps => some (ps.toList.map (·.2))
 | .buildSlice _ _ ps => some (ps.toList.map (·.2))
 | .store _ a v | .binOp _ _ a v _ | .makeSlice _ a v | .indexAddr _ a v | .index _ a v => some [a, v]
 | .slice _ x l h m => some (x :: (l.toList ++ (h.toList ++ m.toList)))
 | .call c => match c.callee with
  | .value f => some (f :: c.args.toList)
  | .builtin _ => some c.args.toList
  | _ => none
 | _ => none
def swapOk (ops : Array Oper) (d : Nat) (x : Operand) (k : Oper) : Bool :=
 (match opsOf k.op with
  | some xs => xs.all fun y => !isTmp d y
  | none => false) && ((match k.dst with
   | some dk => !(Nat.beq d dk) && !isTmp dk x
   | none => true) && (match k.guard with
    | some (j, _) => (match (ops[j]?).bind (·.dst) with
     | some dj => !(Nat.beq d dj)
     | none => true)
    | none => true))
def bareOp : Op -> Option Operand
 | .move x => some x
 | .extract x _ => some x
 | _ => none
def floatTo (ops : Array Oper) (i : Nat) (d : Nat) (x : Operand) : Nat -> Bool
 | 0 => true
 | n + 1 => (decide (n <= i) || (match ops[n]? with
  | some k => swapOk ops d x k || k.after.toList.any fun e => Region.binds .any e && Nat.beq e.on i
  | none => true)) && floatTo ops i d x n
def floatOk (ops : Array Oper) (i : Nat) : Bool := match ops[i]? with
 | some z => (match bareOp z.op, z.dst with
  | some x, some d => z.guard.isNone && (!isTmp d x && floatTo ops i d x ops.size)
  | _, _ => false)
 | none => false
def okFloat (ops : Array Oper) (mask : Nat) : Nat -> Bool
 | 0 => true
 | n + 1 => (mask.testBit n || floatOk ops n) && okFloat ops mask n
def okStep (ops : Array Oper) (mask : Nat) (fs : List Foot) (f : Foot) : Bool := okAll mask 0 fs f || okFloat ops mask fs.length
section
variable {R : Type} (T : Tab) (sig : FuncId -> Option Sig) (caps : FuncId -> List Ty) (orc : Orc)
def evDraw (TS : DS) (ops : Array Oper) : List Oper -> List Nat -> List Foot -> Env -> (Env -> Option R) -> Option R
 | [], _, _, env, K => K env
 | o :: rest, ms, fs, env, K =>
  let mask := ancMask ms o.after.toList
  if o.after.toList.all (fun e => !Region.binds .any e || decide (e.on < ms.length)) then
   match o.guard with
   | none => if okStep ops mask fs (footRun T sig TS o env) then evOp T sig caps orc o env fun env' => if okE TS env' then evDraw TS ops rest (ms ++ [mask]) (fs ++ [footRun T sig TS o env]) env' K else none else none
   | some (j, want) => match (ops[j]?).bind (·.dst) with
    | none => none
    | some dj => match get env dj with
     | .skip => if okStep ops mask fs (Foot.reads [dj] (footSkip o env)) then skipOp o env fun env' => if okE TS env' then evDraw TS ops rest (ms ++ [mask]) (fs ++ [Foot.reads [dj] (footSkip o env)]) env' K else none else none
     | .con .val [⟨.bool, b, .at_ .ro⟩] => bif b
       then (if want then (if okStep ops mask fs (Foot.reads [dj] (footRun T sig TS o (put env dj (vBool true)))) then evOp T sig caps orc o (put env dj (vBool true)) fun env' => if okE TS env' then evDraw TS ops rest (ms ++ [mask]) (fs ++ [Foot.reads [dj] (footRun T sig TS o (put env dj (vBool true)))]) env' K else none else none)
        else (if okStep ops mask fs (Foot.reads [dj] (footSkip o (put env dj (vBool true)))) then skipOp o (put env dj (vBool true)) fun env' => if okE TS env' then evDraw TS ops rest (ms ++ [mask]) (fs ++ [Foot.reads [dj] (footSkip o (put env dj (vBool true)))]) env' K else none else none))
       else (if want then (if okStep ops mask fs (Foot.reads [dj] (footSkip o (put env dj (vBool false)))) then skipOp o (put env dj (vBool false)) fun env' => if okE TS env' then evDraw TS ops rest (ms ++ [mask]) (fs ++ [Foot.reads [dj] (footSkip o (put env dj (vBool false)))]) env' K else none else none)
        else (if okStep ops mask fs (Foot.reads [dj] (footRun T sig TS o (put env dj (vBool false)))) then evOp T sig caps orc o (put env dj (vBool false)) fun env' => if okE TS env' then evDraw TS ops rest (ms ++ [mask]) (fs ++ [Foot.reads [dj] (footRun T sig TS o (put env dj (vBool false)))]) env' K else none else none))
     | _ => none
  else none
def boxCalls (ops : List Oper) : Bool := ops.any fun o => match o.op with
 | .call c => match c.callee with
  | .value (.func f) => match sig f with
   | some sg => sg.box.isSome
   | none => false
  | _ => false
 | _ => false
def boxesOf : Nat -> Env -> List Nat
 | _, [] => []
 | n, v :: r => match v with
  | .con (.box _) ls => if ls.all fun l => !l.m.own then n :: boxesOf (n + 1) r else boxesOf (n + 1) r
  | _ => boxesOf (n + 1) r
def ownCall (sig : FuncId -> Option Sig) : Op -> Bool
 | .call c => match c.callee with
  | .value (.func f) => match sig f with
   | some sg => sg.newb.isNone && (match sg.results with
    | [(.slice _ _, .dp)] => true
    | _ => false)
   | none => false
  | _ => false
 | _ => false
def tsAsg (sig : FuncId -> Option Sig) (ops : List Oper) : List Nat := ops.filterMap fun o => match o.op with
 | .assign (.tmp s) => if (ops.any fun o => o.dst == some s && ownCall sig o.op) && Nat.beq ((ops.map fun o => ((usesOf o.op).filter (isTmp s)).length).sum) 1 then some s else none
 | _ => none
def movedT (ops : List Oper) (s : Nat) : Bool := match defOf ops s with
 | some (.move (.tmp _)) => true
 | _ => false
def tdAsg (ts : List Nat) (ops : List Oper) : List Nat := ops.filterMap fun o => match o.op with
 | .assign (.tmp s) => match o.dst with
  | some d => if (ts.contains s || movedT ops s) && ops.all (fun o => (usesOf o.op).all fun y => !isTmp d y) then some d else none
  | none => none
 | _ => none
def storedIn (env : Env) (ops : List Oper) : List Nat := ops.filterMap fun o => match o.op with
 | .store _ (.tmp s) _ => if (get env s).isBox && Nat.beq ((ops.map fun o => ((usesOf o.op).filter (isTmp s)).length).sum) 1 then some s else none
 | _ => none
def firstOk (env : Env) : List DS -> DS
 | [] => {}
 | D :: r => if okE D env then D else firstOk env r
def drawTS (ops : Array Oper) (env : Env) : DS :=
 let ts := tsOf ops.toList ++ tsAsg sig ops.toList
 let td := ts ++ tdAsg ts ops.toList
 let bx := if boxCalls sig ops.toList then boxesOf 0 env else []
 firstOk env [⟨td, storedIn env ops.toList ++ bx⟩, ⟨ts, storedIn env ops.toList ++ bx⟩, ⟨ts, bx⟩, ⟨ts, []⟩]
def drawReg (ops : Array Oper) (env : Env) (K : Env -> Option R) : Option R := evDraw T sig caps orc (drawTS sig ops env) ops ops.toList [] [] env K
end
section
variable {R : Type} {T : Tab} {sig : FuncId -> Option Sig} {caps : FuncId -> List Ty} {orc : Orc}
theorem Yb6 {ops : Array Oper} {rest : List Oper} {TS : DS} {ms : List Nat} {fs : List Foot} {K : Env -> Option R} {r : R} (h : evDraw T sig caps orc TS ops (o :: rest) ms fs env K = some r) :
  (∀ e ∈ o.after.toList, Region.binds .any e = true -> e.on < ms.length) /\ okStep ops (ancMask ms o.after.toList) fs (footG T sig TS ops o env) = true /\ ∃ e1, evOps T sig caps orc ops [o] env some = some e1 /\ okE TS e1 = true /\ evDraw T sig caps orc TS ops rest (ms ++ [ancMask ms o.after.toList]) (fs ++ [footG T sig TS ops o env]) e1 K = some r := by
 simp only [evDraw] at h;split at h
 ·rename_i hb;refine ⟨fun e he hbe => by have := Xa.1 hb e he; rw [hbe] at this; simpa using this, ?_⟩;have run : ∀ {f : Foot} {X : Env}, (if okStep ops (ancMask ms o.after.toList) fs f = true then evOp T sig caps orc o X fun env' => if okE TS env' then evDraw T sig caps orc TS ops rest (ms ++ [ancMask ms o.after.toList]) (fs ++ [f]) env' K else none else none) = some r ->
    okStep ops (ancMask ms o.after.toList) fs f = true /\ ∃ e1, evOp T sig caps orc o X some = some e1 /\ okE TS e1 = true /\ evDraw T sig caps orc TS ops rest (ms ++ [ancMask ms o.after.toList]) (fs ++ [f]) e1 K = some r := by
   intro f X h;split at h
   ·rename_i hok;rw [Y4g] at h;obtain ⟨e1, h1, h2⟩ := Xr.1 h;split at h2
    ·grind
    ·simp at h2
   ·simp at h
  have skp : ∀ {f : Foot} {X : Env}, (if okStep ops (ancMask ms o.after.toList) fs f = true then skipOp o X fun env' => if okE TS env' then evDraw T sig caps orc TS ops rest (ms ++ [ancMask ms o.after.toList]) (fs ++ [f]) env' K else none else none) = some r ->
    okStep ops (ancMask ms o.after.toList) fs f = true /\ ∃ e1, skipOp o X some = some e1 /\ okE TS e1 = true /\ evDraw T sig caps orc TS ops rest (ms ++ [ancMask ms o.after.toList]) (fs ++ [f]) e1 K = some r := by
   intro f X h;split at h
   ·rename_i hok;rw [Y3e] at h;obtain ⟨e1, h1, h2⟩ := Xr.1 h;split at h2
    ·simp_all
    ·simp at h2
   ·simp at h
  unfold footG;simp only [evOps];cases hg : o.guard with
  | none => grind
  | some g =>
   obtain ⟨j, want⟩ := g;rw [hg] at h;simp only at h ⊢;cases hj : (ops[j]?).bind (·.dst) with
   | none => rw [hj] at h; simp at h
   | some dj =>
    rw [hj] at h;simp only at h ⊢;split at h
    ·grind
    ·rename_i b hs;have hput : put env dj (vBool b) = env := Y2m hs;simp [hs];cases b with
     | true => grind
     | false => grind
    ·simp at h
 ·simp at h
end
inductive Anc (ops : Array Oper) : Nat -> Nat -> Prop
 | edge {j : Nat} {o : Oper} {e : Edge} (h1 : ops[j]? = some o) (h2 : e ∈ o.after) (h3 : Region.binds .any e = true) : Anc ops j e.on
 | trans {j i : Nat} {o : Oper} {e : Edge} (h1 : ops[j]? = some o) (h2 : e ∈ o.after) (h3 : Region.binds .any e = true) (h4 : Anc ops e.on i) : Anc ops j i
theorem Y4u {ms : List Nat} {i : Nat} : ∀ {l : List Edge}, (ancMask ms l).testBit i = true -> ∃ e ∈ l, Region.binds .any e = true /\ (e.on = i \/ (ms.getD e.on 0).testBit i = true)
 | [], h => by simp [ancMask] at h
 | e :: l, h => by
  unfold ancMask at h;split at h
  ·rename_i hb;rw [Nat.testBit_or, Nat.testBit_or, Nat.testBit_two_pow] at h;simp at h;rcases h with (h | h) | h
   ·grind
   ·grind
   ·obtain ⟨e', h1, h2⟩ := Y4u h;exact ⟨e', by simp [h1], h2⟩
  ·obtain ⟨e', h1, h2⟩ := Y4u h;exact ⟨e', by simp [h1], h2⟩
theorem Y3z {t : Nat} : ∀ {l : List Nat}, notIn t l = true -> t ∉ l
 | [], _ => by simp
 | x :: l, h => by
  simp [notIn] at h;have h1 : x ≠ t := fun e => by simp_all
  simp;exact ⟨fun e => h1 e.symm, Y3z h.2⟩
theorem Yda {f g : Foot} (h : disB f g = true) : Dis f g := by
 cases f with
 | none => simp [disB] at h
 | some p => cases g with
  | none => simp [disB] at h
  | some q =>
   obtain ⟨W, R⟩ := p;obtain ⟨W', R'⟩ := q;simp [disB] at h;exact ⟨fun w hw => ⟨Y3z (h.1 w hw).1, Y3z (h.1 w hw).2⟩, fun w hw => Y3z (h.2 w hw)⟩
theorem Y7x {mask : Nat} {g : Foot} : ∀ {fs : List Foot} {i : Nat}, okAll mask i fs g = true -> ∀ k f, fs[k]? = some f -> mask.testBit (i + k) = true \/ Dis f g
 | [], i, _, k, f, hk => by simp at hk
 | f0 :: fs, i, h, k, f, hk => by
  simp [okAll] at h;cases k with
  | zero =>
   simp only [Xg, X0] at hk;subst hk;exact h.1.imp (fun h => h) Yda
  | succ k =>
   have := Y7x h.2 k f (by simpa using hk)
   rwa [show i + 1 + k = i + (k + 1) by omega] at this
section
variable {R : Type} {T : Tab} {sig : FuncId -> Option Sig} {caps : FuncId -> List Ty} {orc : Orc}
theorem Yan {TS : DS} (h1 : TS.ts = []) (h2 : TS.bx = []) (v : AV) : v.free TS = true := by simp [AV.free, h1, h2]
theorem Ybi {TS : DS} (h : okE TS env = true) : AllJ (Fr TS) env := by
 unfold okE at h;rw [X2p] at h;intro r;rcases h with h | h
 ·rw [X9] at h;exact ⟨Yan (List.isEmpty_iff.1 h.1) (List.isEmpty_iff.1 h.2) _, fun hb => by grind⟩
 ·have key : ∀ {l : Env}, l.all (AV.free TS) = true -> ∀ r, (get l r).free TS = true := by
   intro l
   induction l with
   | nil => intro _ r; simp [get, AV.free, AV.refs, AV.ptrs]
   | cons v l ih =>
    intro hl r;simp only [List.all_cons, X9] at hl;cases r with
    | zero => exact hl.1
    | succ r => exact ih hl.2 r
  rw [X9] at h;exact ⟨key h.1 r, fun hb => Xa.1 h.2 r hb⟩
theorem Y62 {ops : Array Oper} {mask : Nat} : ∀ {n : Nat}, okFloat ops mask n = true -> ∀ i, i < n -> mask.testBit i = true \/ floatOk ops i = true
 | 0, _, i, hi => by omega
 | n + 1, h, i, hi => by
  simp [okFloat] at h;by_cases e : i = n
  ·grind
  ·exact Y62 h.2 i (by omega)
theorem Y63 {TS : DS} {ops : Array Oper} {K : Env -> Option R} {r : R} : ∀ {rest : List Oper} {ms : List Nat} {fs : List Foot} {env : Env} {k : Nat}, evDraw T sig caps orc TS ops rest ms fs env K = some r -> AllJ (Fr TS) env -> ms.length = k -> fs.length = k -> (∀ m, rest[m]? = ops[k + m]?) ->
  (∀ j, j < k -> ∀ i, (ms.getD j 0).testBit i = true -> Anc ops j i) ->
  ∃ (E : Env) (gs : List Foot), gs.length = rest.length /\ Trace (Fr TS) (stepI T sig caps orc ops) (footI T sig TS ops) (List.range' k rest.length) env E (fun i => (fs ++ gs).getD i none) /\ K E = some r /\
   (∀ j, k <= j -> j < k + rest.length -> (∀ o, ops[j]? = some o -> ∀ e ∈ o.after, Region.binds .any e = true -> e.on < j) /\ ((∀ i, i < j -> Anc ops j i \/ Dis ((fs ++ gs).getD i none) ((fs ++ gs).getD j none)) \/ ∀ i, i < j -> Anc ops j i \/ floatOk ops i = true))
 | [], ms, fs, env, k, h, hJ, h1, h2, h3, h4 => by
  exact ⟨env, [], rfl, ⟨hJ, rfl⟩, h, fun j hj hj' => by grind⟩
 | o :: rest, ms, fs, env, k, h, hJ, h1, h2, h3, h4 => by
  obtain ⟨hback, hok, e1, hs, hE, hr⟩ := Yb6 h;have hok0 : ops[k]? = some o := by have := h3 0; simpa using this.symm
  have hanc : ∀ i, (ancMask ms o.after.toList).testBit i = true -> Anc ops k i := by
   intro i hi;obtain ⟨e, he, hb, hc⟩ := Y4u hi;have he' : e ∈ o.after := by simpa using he
   rcases hc with rfl | hc
   ·exact .edge hok0 he' hb
   ·exact .trans hok0 he' hb (h4 e.on (by have := hback e he hb; omega) i hc)
  let g := footG T sig TS ops o env
  obtain ⟨E, gs, k1, k2, k3, k4⟩ := Y63 (k := k + 1) hr (Ybi hE) (by simp [h1]) (by simp [h2]) (fun m => by have := h3 (m + 1); rw [X1i] at this; rw [this]; congr 1; omega) (fun j hj i hi => by grind);have eapp : fs ++ [g] ++ gs = fs ++ (g :: gs) := by simp
  rw [eapp] at k2 k4;have hgk : (fs ++ (g :: gs)).getD k none = g := by simp_all
  refine ⟨E, g :: gs, by simp [k1], ?_, k3, fun j hj hj' => ?_⟩
  ·rw [X1s, List.range'_succ];refine ⟨hJ, ?_, e1, ?_, k2⟩
   ·show footI T sig TS ops k env = _;unfold footI;rw [hok0];exact hgk.symm
   ·unfold stepI;rw [hok0];exact hs
  ·by_cases hjk : j = k
   ·subst hjk;refine ⟨fun o' ho' e he hbe => ?_, ?_⟩
    ·grind
    ·unfold okStep at hok;rw [X2p] at hok;rcases hok with hok | hok
     case inr =>
      right;intro i hi;rcases Y62 hok i (by omega) with h5 | h5
      ·grind
      ·exact .inr h5
     left;intro i hi;rw [hgk];have hfi : fs[i]? = some (fs[i]'(by omega)) := X1 (by omega);have := Y7x hok i _ hfi;rw [X13] at this;rcases this with h5 | h5
     ·simp_all
     ·grind
   ·exact k4 j (by omega) (by simp at hj'; omega)
theorem Ycn {o : Op} {xs : List Operand} (h : opsOf o = some xs) : (∀ cs b, o ≠ .select cs b) /\ ∀ x ∈ o.operands, x ∈ xs := by
 cases o <;> simp [opsOf] at h <;> try cases h
 case call c =>
  refine ⟨by simp, fun x hx => ?_⟩;simp [Op.operands, Call.operands] at hx;split at h
  ·grind
  ·grind
  ·cases h
 all_goals (refine ⟨by simp, fun x hx => ?_⟩; first | (simp [Op.operands] at hx ⊢; done) | (simp [Op.operands] at hx ⊢; exact hx) | (simp [Op.operands] at hx ⊢; grind))
theorem Yco {z : Oper} (hb : bareOp z.op = some x) : (∃ f : Value -> Sem Value, (∀ (ρ : Operand -> Value), execOp ρ z = (do let u <- f (ρ x); pure (Next.value u))) /\ ∀ v, (∃ u, ∀ w, (f v).run P w = .ok u w) \/ ∀ w, ∃ h, (f v).run P w = .halt h w /\ ∀ p, h ≠ .panic p) := by
 unfold bareOp at hb;split at hb
 ·rename_i y ho;simp at hb;subst hb;exact ⟨fun v => pure v, fun ρ => by simp [execOp, ho], fun v => .inl ⟨v, fun w => by simp⟩⟩
 ·rename_i y i ho;simp at hb;subst hb;refine ⟨fun v => Instr.extract v i, fun ρ => by simp [execOp, ho], fun v => ?_⟩;cases v with
  | tuple vs =>
   cases hv : vs[i]? with
   | none => exact .inr fun w => ⟨_, by simp [Instr.extract, hv, stuck]; rfl, by simp⟩
   | some u => exact .inl ⟨u, fun w => by simp [Instr.extract, hv]⟩
  | _ => exact .inr fun w => ⟨_, by simp [Instr.extract, stuck]; rfl, by simp⟩
 ·cases hb
theorem Yao (a : Act) {d d' : Option Tmp} (u v : Value) (h : d ≠ d' \/ d = none) : (a.put d u).put d' v = (a.put d' v).put d u := by
 cases d with
 | none => rfl
 | some d => cases d' with
  | none => rfl
  | some d' =>
   have hne : d ≠ d' := fun e => by grind
   simp only [Act.put];congr 1;exact Array.setIfInBounds_comm _ _ hne
theorem Ydb {ops : Array Oper} {zi ki : Nat} {z k : Oper} {L : List Nat} (hz : ops[zi]? = some z) (hk : ops[ki]? = some k) (hb : bareOp z.op = some x) (hd : z.dst = some d) (hg : z.guard = none) (hs : swapOk ops d x k = true) (hp : ∀ c a w, ¬ Q (.panic c) a w) (hl : ¬ LetsOut Q) (h : wpOps P ops Q (zi :: ki :: L) a w) : wpOps P ops Q (ki :: zi :: L) a w := by
 unfold swapOk at hs;rw [X9, X9] at hs;obtain ⟨s1, s2, s3⟩ := hs;obtain ⟨f, f1, f2⟩ := Yco (P := P) hb;have wz : ∀ y, Region.wanted z y = true := fun y => by simp [Region.wanted, hg]
 simp [wpOps, hz, hk, wz] at h ⊢;have h := h.resolve_right (fun h => hl h.2);have runz : ∀ (a' : Act) (w' : World) u, (∀ w, (f (a'.eval x)).run P w = .ok u w) -> (execOp a'.eval z).run P w' = .ok (.value u) w' := fun a' w' u hu => by simp_all
 have hval : ∃ u, ∀ w, (f (a.eval x)).run P w = .ok u w := by
  rcases f2 (a.eval x) with h' | h'
  ·exact h'
  ·exfalso;obtain ⟨hh, e, hne⟩ := h' w;unfold Oper.wp at h;rw [f1] at h;simp [X31, e] at h;cases hh <;> simp_all [Oper.upon, Result.andThen]
 obtain ⟨u, hu⟩ := hval;unfold Oper.wp at h;rw [runz a w u hu, Oper.upon_value, hd] at h
 -- what k reads is the same
 have hek : execOp (a.put (some d) u).eval k = execOp a.eval k := by
  split at s1
  ·rename_i xs ho;obtain ⟨o1, o2⟩ := Ycn ho;refine execOp_congr k o1 (fun y hy => ?_);have := Xa.1 s1 y (o2 y hy);cases y with
   | tmp q =>
    have hne : d ≠ q := fun e => by rw [e] at this; simp [isTmp] at this
    rw [Y6, Y6];show (a.tmps.setIfInBounds d u).getD q undef = a.tmps.getD q undef;rw [Y6s, X2 (fun e => hne e.1.symm)]
   | _ => rfl
  ·cases s1
 have hwk : Region.wanted k (yielded ops (a.put (some d) u).tmps) = Region.wanted k (yielded ops a.tmps) := by
  unfold Region.wanted;cases hgk : k.guard with
  | none => rfl
  | some g =>
   obtain ⟨j, want⟩ := g;rw [hgk] at s3;simp only at s3 ⊢;have : yielded ops (a.put (some d) u).tmps j = yielded ops a.tmps j := by
    unfold yielded;cases hj : (ops[j]?).bind (·.dst) with
    | none => rfl
    | some dj =>
     rw [hj] at s3;have hne : d ≠ dj := fun e => by simp_all
     simp;show (match (a.tmps.setIfInBounds d u)[dj]? with | some (.bool b) => some b | _ => none) = _;rw [X1z, X2 hne];rfl
   rw [this]
 -- what z does behind k
 have hdk : k.dst ≠ some d /\ ∀ (a' : Act) v, (a'.put k.dst v).eval x = a'.eval x := by
  cases hdk : k.dst with
  | none => exact ⟨by simp, fun a' v => rfl⟩
  | some dk =>
   rw [hdk] at s2;simp at s2;refine ⟨fun e => by simp at e; rw [e] at s2; simp at s2, fun a' v => ?_⟩;cases x with
   | tmp q =>
    have hne : dk ≠ q := fun e => by rw [e] at s2; simp [isTmp] at s2
    rw [Y6, Y6];show (a'.tmps.setIfInBounds dk v).getD q undef = a'.tmps.getD q undef;rw [Y6s, X2 (fun e => hne e.1.symm)]
   | _ => rfl
 have back : ∀ (a' : Act) (w' : World), a'.eval x = a.eval x -> wpOps P ops Q L (a'.put (some d) u) w' -> (z.wp P a' w' (wpOps P ops Q L) Q \/ (z.asks P a' w' /\ LetsOut Q)) := fun a' w' e h => by
  left;unfold Oper.wp;rw [runz a' w' u (by grind), Oper.upon_value, hd];exact h
 have comm : ∀ (a' : Act) v, (a'.put (some d) u).put k.dst v = (a'.put k.dst v).put (some d) u := fun a' v => Yao a' u v (.inl (fun e => hdk.1 e.symm));rw [hwk] at h;split
 ·rename_i hw;rw [X4 hw] at h;have h := h.resolve_right (fun h => hl h.2);left;unfold Oper.wp at h ⊢;rw [hek] at h;generalize (execOp a.eval k).run P w = r at *;cases r with
  | ok n w' =>
   cases n <;> simp [Oper.upon] at h ⊢
   case value v => rw [comm] at h; exact back _ _ (hdk.2 _ _) h
   case skip => rw [comm] at h; exact back _ _ (hdk.2 _ _) h
   case defer dd =>
    have : ({ (a.put (some d) u) with defers := dd :: (a.put (some d) u).defers } : Act) = ({ a with defers := dd :: a.defers } : Act).put (some d) u := rfl;rw [this, comm] at h;exact back _ _ ((hdk.2 _ _).trans rfl) h
   case enter f' args =>
    refine X2j h (fun e w'' he => ?_);cases e with
    | returned v => simp_all
    | panicked c => exact (hp _ _ _ he).elim
    | outgrown => exact he
   case row rw_ args =>
    refine Rows.mono h (fun v w'' he => ?_);rw [comm] at he;exact back _ _ (hdk.2 _ _) he
  | halt x' w' =>
   cases x' <;> simp [Oper.upon] at h ⊢;exact (hp _ _ _ h).elim
 ·grind
def Swap (ops : Array Oper) (y c : Nat) : Prop := ∃ z k x d, ops[y]? = some z /\ ops[c]? = some k /\ bareOp z.op = some x /\ z.dst = some d /\ z.guard = none /\ swapOk ops d x k = true
theorem Yel {ops : Array Oper} {y : Nat} {L : List Nat} (hp : ∀ c a w, ¬ Q (.panic c) a w) (hl : ¬ LetsOut Q) : ∀ {C : List Nat}, (∀ c ∈ C, Swap ops y c) -> ∀ {a : Act} {w : World}, wpOps P ops Q (y :: (C ++ L)) a w -> wpOps P ops Q (C ++ y :: L) a w
 | [], _, a, w, h => h
 | c :: C, hC, a, w, h => by
  obtain ⟨z, k, x, d, h1, h2, h3, h4, h5, h6⟩ := hC c Xo;have := Ydb h1 h2 h3 h4 h5 h6 hp hl (L := C ++ L) h;rw [X20, wpOps_cons] at *;exact wpOp_mono (fun a w h => Yel hp hl (fun c hc => hC c (X3 _ hc)) h) this
theorem Ydc {P : Program} {ops : Array Oper} {Q : Exit -> Act -> World -> Prop} {L L' : List Nat} (h : ∀ a w, wpOps P ops Q L a w -> wpOps P ops Q L' a w) : ∀ {A : List Nat} {a : Act} {w : World}, wpOps P ops Q (A ++ L) a w -> wpOps P ops Q (A ++ L') a w
 | [], a, w, hh => h a w hh
 | x :: A, a, w, hh => by
  rw [X20, wpOps_cons] at *;exact wpOp_mono (fun a w h' => Ydc h h') hh
theorem Ycp {P : Program} {ops : Array Oper} {Q : Exit -> Act -> World -> Prop} {s : Nat} {T : List Nat} (hp : ∀ c a w, ¬ Q (.panic c) a w) (hl : ¬ LetsOut Q) : ∀ {l C : List Nat}, (∀ y ∈ l, y < s -> ∀ c ∈ C, Swap ops y c) -> l.Pairwise (fun c y => y < s -> ¬ c < s -> Swap ops y c) -> ∀ {a : Act} {w : World}, wpOps P ops Q (l.filter (fun y => decide (y < s)) ++ (C ++ (l.filter (fun y => !decide (y < s)) ++ T))) a w -> wpOps P ops Q (C ++ (l ++ T)) a w
 | [], C, _, _, a, w, h => by simpa using h
 | y :: l, C, hC, hpw, a, w, h => by
  obtain ⟨p1, p2⟩ := X1f.1 hpw;by_cases hy : y < s
  ·rw [List.filter_cons_of_pos (by simpa using hy), List.filter_cons_of_neg (by simpa using hy), X20, wpOps_cons] at h;rw [X20];refine Yel hp hl (hC y Xo hy) ?_;rw [wpOps_cons];exact wpOp_mono (fun a w h' => Ycp hp hl (fun y' hy' => hC y' (X3 _ hy')) p2 h') h
  ·rw [List.filter_cons_of_neg (by simpa using hy), List.filter_cons_of_pos (by simpa using hy)] at h;have h2 : wpOps P ops Q (l.filter (fun y => decide (y < s)) ++ ((C ++ [y]) ++ (l.filter (fun y => !decide (y < s)) ++ T))) a w := by grind
   have := Ycp hp hl (C := C ++ [y]) (fun y' hy' hlt c hc => by grind) p2 h2;simpa [X7] using this
noncomputable def fixO (hard : Nat -> Prop) : Nat -> List Nat -> List Nat := open Classical in fun
 | 0, l => l
 | _ + 1, [] => []
 | n + 1, a :: l => if hard a then fixO hard n (l.filter fun y => decide (y < a)) ++ a :: fixO hard n (l.filter fun y => !decide (y < a)) else a :: fixO hard n l
theorem Y3o {hard : Nat -> Prop} : ∀ (n : Nat) {l : List Nat}, List.Perm (fixO hard n l) l
 | 0, l => by rw [fixO]
 | n + 1, [] => by rw [fixO]
 | n + 1, a :: l => by
  rw [fixO];split
  ·refine (List.perm_middle).trans (List.Perm.cons a ?_);exact (List.Perm.append (Y3o n) (Y3o n)).trans (List.filter_append_perm _ l)
  ·exact List.Perm.cons a (Y3o n)
theorem Y72 {hard : Nat -> Prop} {l : List Nat} {x : Nat} : x ∈ fixO hard n l ↔ x ∈ l := (Y3o n).mem_iff
theorem Y4j {hard : Nat -> Prop} {D : Nat -> Nat -> Prop} : ∀ (n : Nat) {l : List Nat}, l.length <= n -> l.Pairwise (fun b x => x < b -> ¬ hard b -> D x b) -> (fixO hard n l).Pairwise (fun b x => x < b -> D x b)
 | 0, l, hn, hp => by
  obtain rfl : l = [] := Xn.1 (by omega);rw [fixO]; exact List.Pairwise.nil
 | n + 1, [], hn, hp => by rw [fixO]; exact List.Pairwise.nil
 | n + 1, a :: l, hn, hp => by
  obtain ⟨p1, p2⟩ := X1f.1 hp;rw [fixO];simp at hn;split
  ·rename_i ha;have m1 : ∀ z ∈ fixO hard n (l.filter fun y => decide (y < a)), z < a := fun z hz => by
    have := (X1r.1 (Y72.1 hz)).2; simpa using this
   have m2 : ∀ z ∈ fixO hard n (l.filter fun y => !decide (y < a)), a <= z := fun z hz => by
    have := (X1r.1 (Y72.1 hz)).2; simpa using this
   refine List.pairwise_append.2 ⟨Y4j n (by have := List.length_filter_le (fun y => decide (y < a)) l; omega) (p2.filter _), X1f.2 ⟨fun x hx hlt => ?_, Y4j n (by grind) (p2.filter _)⟩, fun z hz x hx hlt => ?_⟩
   ·grind
   ·grind
  ·rename_i ha;exact X1f.2 ⟨fun x hx hlt => p1 x (Y72.1 hx) hlt ha, Y4j n (by omega) p2⟩
theorem Y6e {P : Program} {ops : Array Oper} {Q : Exit -> Act -> World -> Prop} {hard Fl : Nat -> Prop} (hp : ∀ c a w, ¬ Q (.panic c) a w) (hl : ¬ LetsOut Q) : ∀ (n : Nat) {l T : List Nat}, l.length <= n -> l.Pairwise (fun c y => y < c -> hard c -> Fl y) -> l.Pairwise (fun c y => y < c -> Fl y -> Swap ops y c) -> ∀ {a : Act} {w : World}, wpOps P ops Q (fixO hard n l ++ T) a w -> wpOps P ops Q (l ++ T) a w
 | 0, l, T, hn, h1, h2, a, w, h => by
  obtain rfl : l = [] := Xn.1 (by omega);rw [fixO] at h; exact h
 | n + 1, [], T, hn, h1, h2, a, w, h => by rw [fixO] at h; exact h
 | n + 1, x :: l, T, hn, h1, h2, a, w, h => by
  obtain ⟨p1, q1⟩ := X1f.1 h1;obtain ⟨p2, q2⟩ := X1f.1 h2;simp at hn;rw [fixO] at h;split at h
  ·rename_i hx;rw [X7, X20] at h;have s1 := Y6e hp hl n (by grind) (q1.filter _) (q2.filter _) h;have s2 := Ydc (A := l.filter (fun y => decide (y < x))) (L' := [x] ++ (l.filter (fun y => !decide (y < x)) ++ T)) (fun a w h => by
    rw [wpOps_cons] at h;rw [List.singleton_append, wpOps_cons];exact wpOp_mono (fun a w h => Y6e hp hl n (by grind) (q1.filter _) (q2.filter _) h) h) s1
   have s3 := Ycp (C := [x]) hp hl (fun y hy hlt c hc => by rw [Xb.1 hc]; exact p2 y hy hlt (p1 y hy hlt hx)) (q2.imp_of_mem (fun {c y} hc hy h hlt hnc => h (by omega) (p1 y hy hlt hx))) s2;exact s3
  ·rw [X20, wpOps_cons] at h ⊢;exact wpOp_mono (fun a w h => Y6e hp hl n (by omega) q1 q2 h) h
theorem Y64 {ops : Array Oper} {i d : Nat} : ∀ {n : Nat}, floatTo ops i d x n = true -> ∀ m, m < n -> i < m -> ∀ k, ops[m]? = some k -> swapOk ops d x k = true \/ ∃ e ∈ k.after, Region.binds .any e = true /\ e.on = i
 | 0, _, m, hm, _, _, _ => by omega
 | n + 1, h, m, hm, him, k, hk => by
  simp only [floatTo, X9, X2p, X1a] at h;by_cases e : m = n
  ·subst e;rcases h.1 with h1 | h1
   ·omega
   ·rw [hk] at h1;simp only [X2p, X1n, X9] at h1;rcases h1 with h1 | ⟨e, he, hb, hi⟩
    ·exact .inl h1
    ·exact .inr ⟨e, by simpa using he, hb, Nat.eq_of_beq_eq_true hi⟩
  ·exact Y64 h.2 m (by omega) him k hk
theorem Y6f : DrawHyp (R := R) T sig caps orc (drawReg T sig caps orc) := by
 intro ops env K r h t;have hTS : AllJ (Fr (drawTS sig ops env)) env := by
  have : ∀ L : List DS, AllJ (Fr (firstOk env L)) env := by
   intro L
   induction L with
   | nil => exact fun r => ⟨Yan rfl rfl _, fun hb => by simp [firstOk] at hb⟩
   | cons D L ih =>
    unfold firstOk;split
    ·rename_i hE; exact Ybi hE
    ·exact ih
  exact this _
 obtain ⟨E, gs, k1, k2, k3, k4⟩ := Y63 (k := 0) h hTS rfl rfl (fun m => by simp) (fun j hj => by omega);simp at k2 k4;rw [<- List.range_eq_range'] at k2;have hback : ∀ (i : Nat) (o : Oper), ops[i]? = some o -> ∀ e ∈ o.after, Region.binds .any e = true -> e.on < i := fun i o ho => (k4 i (Xv.1 ho).1).1 o ho;have hunl : unl ops.size (Array.replicate ops.size false) = List.range ops.size := by
  unfold unl;rw [List.filter_eq_self];intro i hi;have := X1v.1 hi;simp [this]
 obtain ⟨g1, g2⟩ := Ybg .any ops hback ops.size t (Array.replicate ops.size false) (by simp) (by rw [hunl]; simp);rw [hunl] at g1
 let π := Region.linearise .any ops t
 have hπ : π = Region.linearise.go .any ops ops.size t (Array.replicate ops.size false) [] := rfl;rw [<- hπ] at g1 g2;have hnd : π.Nodup := g1.symm.nodup List.nodup_range;have hedge : ∀ (j : Nat) (o : Oper) (e : Edge), ops[j]? = some o -> e ∈ o.after -> Region.binds .any e = true -> ∀ (A B : List Nat), π = A ++ j :: B -> e.on ∈ A := by
  intro j o e ho he hb A B hAB;rcases g2 A j B hAB o ho e he hb with h | h
  ·simp only [Xy, X28] at h;split at h <;> simp at h
  ·exact h
 have hbefore : ∀ (j i : Nat), Anc ops j i -> ∀ (A B : List Nat), π = A ++ j :: B -> i ∈ A := by
  intro j i ha
  induction ha with
  | edge h1 h2 h3 => grind
  | @trans j0 i0 o0 e0 h1 h2 h3 h4 ih =>
   intro A B e;have h := hedge _ _ _ h1 h2 h3 A B e;obtain ⟨A1, A2, rfl⟩ := List.append_of_mem h;have := ih A1 (A2 ++ j0 :: B) (by grind);exact Xc _ this
 have hsz : ∀ a ∈ π, a < ops.size := fun a ha => X1v.1 (g1.subset ha)
 -- what comes later in π is no ancestor
 have pw : ∀ (D : Nat -> Nat -> Prop), (∀ (A B : List Nat) (c y : Nat), π = A ++ c :: B -> y ∈ B -> D c y) -> π.Pairwise D := by
  intro D hD;have go : ∀ (A B : List Nat), π = A ++ B -> B.Pairwise D := by
   intro A B
   induction B generalizing A with
   | nil => simp_all
   | cons a B ih =>
    intro e;exact X1f.2 ⟨fun x hx => hD A B a x e hx, ih (A ++ [a]) (by rw [e]; simp)⟩
  exact go [] π rfl
 have hlater : ∀ (A B : List Nat) (c y : Nat), π = A ++ c :: B -> y ∈ B -> ¬ Anc ops c y := fun A B c y e hy ha => by
  have h1 := hbefore c y ha A B e;rw [e] at hnd;exact (X15.1 hnd).2.2 y h1 y (by simp [hy]) rfl
 let hard : Nat -> Prop := fun j => ¬ ∀ i, i < j -> Anc ops j i \/ Dis (gs.getD i none) (gs.getD j none)
 let Fl : Nat -> Prop := fun i => floatOk ops i = true
 let D : Nat -> Nat -> Prop := fun x b => Dis (gs.getD x none) (gs.getD b none)
 have hpr := Y4j (hard := hard) (D := D) π.length (Xi _) (pw _ (fun A B c y e hy hlt hnh => by
  have := (Classical.not_not.1 hnh) y hlt;exact this.resolve_left (hlater A B c y e hy)))
 have htr := Trace.reorder (Yf4 ops) List.pairwise_lt_range ((Y3o (hard := hard) π.length).trans g1) hpr k2;refine ⟨fixO hard π.length π, Yam k3 htr, fun P Q a w hp hl h => ?_⟩;have := Y6e (P := P) (Q := Q) (hard := hard) (Fl := Fl) (T := []) hp hl π.length (Xi _) (pw _ (fun A B c y e hy hlt hh => ?_)) (pw _ (fun A B c y e hy hlt hf => ?_)) (a := a) (w := w) (by simpa using h)
 ·simpa using this
 ·grind
 ·have hc := hsz c (by rw [e]; simp);have hy' := hsz y (by grind);have hf : floatOk ops y = true := hf;unfold floatOk at hf;rw [Xt hy'] at hf;simp only at hf;split at hf
  ·rename_i x d hb hd;simp at hf;obtain ⟨hg, _, hft⟩ := hf;rcases Y64 hft c hc hlt ops[c] (Xt hc) with h' | ⟨e', he', hbe, hon⟩
   ·exact ⟨ops[y], ops[c], x, d, Xt hy', Xt hc, hb, hd, hg, h'⟩
   ·grind
  ·cases hf
theorem Yb7 (hT : TabOk P T) (hO : OrcOk P sig orc) (hm : P.follows .mixedOrders = true) (hf : P.funcs[f]? = some fn) (hb : fn.body = some code) {args : List RV} {res : List (Σ t : Ty, t.D)} {KR : List (Σ t : Ty, t.D) -> Option R} {rr : R}
  (hmu : sg.muts = false) (hU : ∀ xs, KR xs = some rr -> xs = res) (h : evFn T sig caps orc (drawReg T sig caps orc) fuel ann sg fn code args KR = some rr) : FnSpec P f sg.results args res := Yet hT hO hm Y6f hf hb hmu hU h
end
inductive Dir where
 | l | r | t | f | b
 deriving DecidableEq, Inhabited
section
variable {R : Type} (T : Tab) (sig : FuncId -> Option Sig) (caps : FuncId -> List Ty) (orc : Orc)
def codeAt (fuel : Nat) (ann : Nat -> Option (List Nat)) : List Dir -> Nat -> Code -> (Exit -> Env -> Option R) -> List (Env -> Option R) -> Option (Nat × Code × (Exit -> Env -> Option R))
 | [], m, c, K, _ => some (m, c, K)
 | .l :: p, m, .seq a b, K, rs => codeAt fuel ann p m a (fun e env' => match e with
  | .normal => evCode T sig caps orc (drawReg T sig caps orc) fuel ann m b env' K
  | e => K e env') rs
 | .r :: p, m, .seq _ b, K, rs => codeAt fuel ann p m b K rs
 | .t :: p, m, .cond _ a _, K, rs => codeAt fuel ann p m a K rs
 | .f :: p, m, .cond _ _ b, K, rs => codeAt fuel ann p m b K rs
 | .b :: p, _, .block id c, K, rs => codeAt fuel ann p id c (fun e env' => match e with
  | .exit id' => if id' = id then K .normal env' else K e env'
  | e => K e env') rs
 | .b :: p, m, .loop c, K, rs => match ann m, rs with
  | some keep, rc :: rs => codeAt fuel ann p m c (fun e env' => match e with
   | .normal => rc (dropAll keep (List.range env'.length) env')
   | e => K e env') rs
  | _, _ => none
 | _, _, _, _, _ => none
def loopAt (fuel : Nat) (ann : Nat -> Option (List Nat)) (p : List Dir) (c : Code) (K : Exit -> Env -> Option R) (rs : List (Env -> Option R)) (k : Nat) (env : Env) : Option R :=
 match codeAt T sig caps orc fuel ann p 0 c K rs with
 | some (m, .loop c, K) => match ann m with
  | some keep => iter (fun rec env => evCode T sig caps orc (drawReg T sig caps orc) fuel ann m c env fun e env' => match e with
   | .normal => rec (dropAll keep (List.range env'.length) env')
   | e => K e env') k env
  | none => none
 | _ => none
end
inductive PC where
 | ro (t : Ty)
 | pin
 | self
 deriving DecidableEq
@[reducible] def AppS : List PC -> Type -> Type
 | [], β => β
 | .ro t :: cs, β => t.D -> AppS cs β
 | .pin :: cs, β => AppS cs β
 | .self :: cs, β => AppS cs β
inductive PS where
 | v (t : Ty)
 | p (t : Ty)
 | c (f : FuncId) (ts : List Ty)
 | s (f : FuncId) (cs : List PC)
 deriving DecidableEq
@[reducible] def App : List PS -> Type -> Type
 | [], β => β
 | .v t :: ps, β => t.D -> App ps β
 | .p t :: ps, β => t.D -> App ps β
 | .c _ ts :: ps, β => AppL ts (App ps β)
 | .s _ cs :: ps, β => AppS cs (App ps β)
where AppL : List Ty -> Type -> Type
 | [], β => β
 | t :: ts, β => t.D -> AppL ts β
def appC {β γ : Type} : (ts : List Ty) -> List (Σ t : Ty, t.D) -> App.AppL ts β -> (β -> Option γ) -> Option γ
 | [], [], F, k => k F
 | t :: ts, x :: xs, F, k => if h : x.1 = t then appC ts xs (F (h ▸ x.2)) k else none
 | _, _, _, _ => none
def appS {β γ : Type} : (cs : List PC) -> List RCap -> AppS cs β -> (β -> Option γ) -> Option γ
 | [], [], F, k => k F
 | .ro t :: cs, .ro x :: xs, F, k => if h : x.1 = t then appS cs xs (F (h ▸ x.2)) k else none
 | .pin :: cs, .pin :: xs, F, k => appS cs xs F k
 | .self :: cs, .self :: xs, F, k => appS cs xs F k
 | _, _, _, _ => none
def app {β : Type} : (ps : List PS) -> List RV -> App ps β -> Option β
 | [], [], F => some F
 | .v t :: ps, .val t' x :: as, F => if h : t' = t then app ps as (F (h ▸ x)) else none
 | .p t :: ps, .ptr t' x :: as, F => if h : t' = t then app ps as (F (h ▸ x)) else none
 | .c f ts :: ps, .clo f' xs :: as, F => if f' = f then appC ts xs F (fun G => app ps as G) else none
 | .s f cs :: ps, .fptr f' xs :: as, F => if f' = f then appS cs xs F (fun G => app ps as G) else none
 | _, _, _ => none
def OkC (β : Type) : (ts : List Ty) -> App.AppL ts β -> (List (Σ t : Ty, t.D) -> β -> Prop) -> Prop
 | [], F, Q => Q [] F
 | t :: ts, F, Q => ∀ x : t.D, OkC β ts (F x) (fun xs G => Q (⟨t, x⟩ :: xs) G)
def OkS (β : Type) : (cs : List PC) -> AppS cs β -> (List RCap -> β -> Prop) -> Prop
 | [], F, Q => Q [] F
 | .ro t :: cs, F, Q => ∀ x : t.D, OkS β cs (F x) (fun xs G => Q (.ro ⟨t, x⟩ :: xs) G)
 | .pin :: cs, F, Q => OkS β cs F (fun xs G => Q (.pin :: xs) G)
 | .self :: cs, F, Q => OkS β cs F (fun xs G => Q (.self :: xs) G)
def OkP (β : Type) : (ps : List PS) -> App ps β -> (List RV -> β -> Prop) -> Prop
 | [], F, Q => Q [] F
 | .v t :: ps, F, Q => ∀ x : t.D, OkP β ps (F x) (fun as G => Q (.val t x :: as) G)
 | .p t :: ps, F, Q => ∀ x : t.D, OkP β ps (F x) (fun as G => Q (.ptr t x :: as) G)
 | .c f ts :: ps, F, Q => OkC (App ps β) ts F (fun xs G => OkP β ps G (fun as H => Q (.clo f xs :: as) H))
 | .s f cs :: ps, F, Q => OkS (App ps β) cs F (fun xs G => OkP β ps G (fun as H => Q (.fptr f xs :: as) H))
theorem Ybj {β γ : Type} : ∀ {ts : List Ty} {xs : List (Σ t : Ty, t.D)} {F : App.AppL ts β} {k : β -> Option γ} {g : γ} {Q : List (Σ t : Ty, t.D) -> β -> Prop}, OkC β ts F Q -> appC ts xs F k = some g -> ∃ G, Q xs G /\ k G = some g
 | [], [], F, k, g, Q, h, ha => ⟨F, h, ha⟩
 | t :: ts, ⟨t', x⟩ :: xs, F, k, g, Q, h, ha => by
  simp only [appC] at ha;split at ha
  ·rename_i e;subst e;obtain ⟨G, h1, h2⟩ := Ybj (h x) ha;exact ⟨G, h1, h2⟩
  ·simp at ha
 | [], x :: xs, F, k, g, Q, h, ha => by simp [appC] at ha
 | t :: ts, [], F, k, g, Q, h, ha => by simp [appC] at ha
theorem Y6g {β γ : Type} : ∀ {cs : List PC} {xs : List RCap} {F : AppS cs β} {k : β -> Option γ} {g : γ} {Q : List RCap -> β -> Prop}, OkS β cs F Q -> appS cs xs F k = some g -> ∃ G, Q xs G /\ k G = some g
 | [], [], F, k, g, Q, h, ha => ⟨F, h, ha⟩
 | .ro t :: cs, .ro ⟨t', x⟩ :: xs, F, k, g, Q, h, ha => by
  simp only [appS] at ha;split at ha
  ·rename_i e;subst e;obtain ⟨G, h1, h2⟩ := Y6g (h x) ha;exact ⟨G, h1, h2⟩
  ·simp at ha
 | .pin :: cs, .pin :: xs, F, k, g, Q, h, ha => by
  simp [appS] at ha;obtain ⟨G, h1, h2⟩ := Y6g (Q := fun xs G => Q (.pin :: xs) G) h ha;exact ⟨G, h1, h2⟩
 | .self :: cs, .self :: xs, F, k, g, Q, h, ha => by
  simp [appS] at ha;obtain ⟨G, h1, h2⟩ := Y6g (Q := fun xs G => Q (.self :: xs) G) h ha;exact ⟨G, h1, h2⟩
 | [], x :: xs, F, k, g, Q, h, ha => by simp [appS] at ha
 | .ro t :: cs, [], F, k, g, Q, h, ha => by simp [appS] at ha
 | .ro t :: cs, .pin :: _, F, k, g, Q, h, ha => by simp [appS] at ha
 | .ro t :: cs, .self :: _, F, k, g, Q, h, ha => by simp [appS] at ha
 | .pin :: cs, [], F, k, g, Q, h, ha => by simp [appS] at ha
 | .pin :: cs, .ro _ :: _, F, k, g, Q, h, ha => by simp [appS] at ha
 | .pin :: cs, .self :: _, F, k, g, Q, h, ha => by simp [appS] at ha
 | .self :: cs, [], F, k, g, Q, h, ha => by simp [appS] at ha
 | .self :: cs, .ro _ :: _, F, k, g, Q, h, ha => by simp [appS] at ha
 | .self :: cs, .pin :: _, F, k, g, Q, h, ha => by simp [appS] at ha
theorem Y65 {β : Type} : ∀ {ps : List PS} {as : List RV} {F : App ps β} {g : β} {Q : List RV -> β -> Prop}, OkP β ps F Q -> app ps as F = some g -> Q as g
 | [], [], F, g, Q, h, ha => by simp [app] at ha; subst ha; exact h
 | .v t :: ps, .val t' x :: as, F, g, Q, h, ha => by
  simp only [app] at ha;split at ha
  ·rename_i e;subst e;exact Y65 (Q := fun as G => Q (.val _ x :: as) G) (h x) ha
  ·simp at ha
 | .p t :: ps, .ptr t' x :: as, F, g, Q, h, ha => by
  simp only [app] at ha;split at ha
  ·rename_i e;subst e;exact Y65 (Q := fun as G => Q (.ptr _ x :: as) G) (h x) ha
  ·simp at ha
 | .c f ts :: ps, .clo f' xs :: as, F, g, Q, h, ha => by
  simp only [app] at ha;split at ha
  ·rename_i e;subst e;obtain ⟨G, h1, h2⟩ := Ybj h ha;exact Y65 (Q := fun as G => Q (.clo _ xs :: as) G) h1 h2
  ·simp at ha
 | [], _ :: _, F, g, Q, h, ha => by simp [app] at ha
 | .v t :: ps, [], F, g, Q, h, ha => by simp [app] at ha
 | .v t :: ps, .ptr _ _ :: _, F, g, Q, h, ha => by simp [app] at ha
 | .v t :: ps, .clo _ _ :: _, F, g, Q, h, ha => by simp [app] at ha
 | .p t :: ps, [], F, g, Q, h, ha => by simp [app] at ha
 | .p t :: ps, .val _ _ :: _, F, g, Q, h, ha => by simp [app] at ha
 | .p t :: ps, .clo _ _ :: _, F, g, Q, h, ha => by simp [app] at ha
 | .c f ts :: ps, [], F, g, Q, h, ha => by simp [app] at ha
 | .c f ts :: ps, .val _ _ :: _, F, g, Q, h, ha => by simp [app] at ha
 | .c f ts :: ps, .ptr _ _ :: _, F, g, Q, h, ha => by simp [app] at ha
 | .v t :: ps, .fptr _ _ :: _, F, g, Q, h, ha => by simp [app] at ha
 | .p t :: ps, .fptr _ _ :: _, F, g, Q, h, ha => by simp [app] at ha
 | .c f ts :: ps, .fptr _ _ :: _, F, g, Q, h, ha => by simp [app] at ha
 | .s f cs :: ps, .fptr f' xs :: as, F, g, Q, h, ha => by
  simp only [app] at ha;split at ha
  ·rename_i e;subst e;obtain ⟨G, h1, h2⟩ := Y6g h ha;exact Y65 (Q := fun as G => Q (.fptr _ xs :: as) G) h1 h2
  ·simp at ha
 | .s f cs :: ps, [], F, g, Q, h, ha => by simp [app] at ha
 | .s f cs :: ps, .val _ _ :: _, F, g, Q, h, ha => by simp [app] at ha
 | .s f cs :: ps, .ptr _ _ :: _, F, g, Q, h, ha => by simp [app] at ha
 | .s f cs :: ps, .clo _ _ :: _, F, g, Q, h, ha => by simp [app] at ha
def FnOk (P : Program) (f : FuncId) (sg : Sig) (args : List RV) (res : List (Σ t : Ty, t.D)) : Prop :=
 match sg.box with
 | some b => ∃ t x0 y ys, nthL args b.k = some (.ptr t x0) /\ res = ⟨t, y⟩ :: ys /\ FnSpecBox P f sg.results b t x0 args y ys
 | none => match sg.newb with
 | some id => ∃ t y ys, res = ⟨t, y⟩ :: ys /\ FnSpecNew P f id sg.results t args y ys
 | none => match sg.muts with
 | false => if sg.own then (match sg.give with
  | none => ∃ t x0, args = [.val t x0] /\ res = [⟨t, x0⟩] /\ FnSpecSh P f t x0
  | some k => ∃ t x0 rest, args = insN k (.val t x0) rest /\ FnSpecG P f sg.results k t x0 rest res) else FnSpec P f sg.results args res
 | true => if sg.own then ∃ t x0 rest y, args = .val t x0 :: rest /\ res = [⟨t, y⟩] /\ FnSpecOwn P f t x0 rest y else ∃ t x0 rest y ys, args = .val t x0 :: rest /\ res = ⟨t, y⟩ :: ys /\ FnSpecMut P f sg.results t x0 rest y ys
structure Entry (P : Program) where
 f : FuncId
 sg : Sig
 ps : List PS
 α : Type
 F : App ps (Option α)
 pk : α -> List (Σ t : Ty, t.D)
 en : Enterable P f
 ok : OkP (Option α) ps F (fun as q => ∀ x, q = some x -> FnOk P f sg as (pk x))
def orcL {P : Program} : List (Entry P) -> Orc
 | [], _, _ => none
 | e :: es, f, as => if f = e.f then (match app e.ps as e.F with
  | some q => some ⟨e.α, q, e.pk⟩
  | none => orcL es f as) else orcL es f as
def sigL {P : Program} : List (Entry P) -> FuncId -> Option Sig
 | [], _ => none
 | e :: es, f => if f = e.f then some e.sg else sigL es f
def agreeL {P : Program} : List (Entry P) -> Bool
 | [] => true
 | e :: es => (es.all fun e' => decide (e'.f = e.f -> e'.sg = e.sg)) && agreeL es
def capsL : List (FuncId × List Ty) -> FuncId -> List Ty
 | [], _ => []
 | p :: ps, f => if f = p.1 then p.2 else capsL ps f
theorem Y73 : ∀ {es : List (Entry P)} {f : FuncId} {as : List RV} {q : OrcRes}, orcL es f as = some q -> ∃ e ∈ es, f = e.f /\ ∃ g, app e.ps as e.F = some g /\ q = ⟨e.α, g, e.pk⟩
 | [], f, as, q, h => by simp [orcL] at h
 | e :: es, f, as, q, h => by
  simp [orcL] at h;split at h
  ·rename_i hf;split at h
   ·grind
   ·obtain ⟨e', h1, h2⟩ := Y73 h;exact ⟨e', X3 _ h1, h2⟩
  ·obtain ⟨e', h1, h2⟩ := Y73 h;exact ⟨e', X3 _ h1, h2⟩
theorem Yap : ∀ {es : List (Entry P)} {f : FuncId} {sg : Sig}, agreeL es = true -> sigL es f = some sg -> ∀ e ∈ es, f = e.f -> e.sg = sg
 | [], f, sg, _, h, e, he, _ => by simp at he
 | e0 :: es, f, sg, ha, h, e, he, hf => by
  simp only [agreeL, X9, Xa, X1a] at ha;simp only [sigL] at h;split at h
  ·grind
  ·rename_i hf0;rcases Xq.1 he with rfl | he
   ·grind
   ·exact Yap ha.2 h e he hf
theorem Y6h {es : List (Entry P)} (ha : agreeL es = true) : OrcOk P (sigL es) (orcL es) := by
 intro f sg args q x hs hq hx;obtain ⟨e, he, hf, g, hg, rfl⟩ := Y73 hq;have hsg := Yap ha hs e he hf;subst hsg;subst hf;exact ⟨e.en, Y65 e.ok hg x hx⟩
def un1 (t : Ty) : List (Σ t : Ty, t.D) -> Option t.D
 | [x] => if h : x.1 = t then some (h ▸ x.2) else none
 | _ => none
def un2 (t u : Ty) : List (Σ t : Ty, t.D) -> Option (t.D × u.D)
 | [x, y] => if h : x.1 = t then if k : y.1 = u then some (h ▸ x.2, k ▸ y.2) else none else none
 | _ => none
def un3 (t u v : Ty) : List (Σ t : Ty, t.D) -> Option (t.D × u.D × v.D)
 | [x, y, z] => if h : x.1 = t then if k : y.1 = u then if l : z.1 = v then some (h ▸ x.2, k ▸ y.2, l ▸ z.2) else none else none else none
 | _ => none
def un4 (t u v w : Ty) : List (Σ t : Ty, t.D) -> Option (t.D × u.D × v.D × w.D)
 | [x, y, z, q] => if h : x.1 = t then if k : y.1 = u then if l : z.1 = v then if m : q.1 = w then some (h ▸ x.2, k ▸ y.2, l ▸ z.2, m ▸ q.2) else none else none else none else none
 | _ => none
def pk4 (t u v w : Ty) : t.D × u.D × v.D × w.D -> List (Σ t : Ty, t.D) := fun x => [⟨t, x.1⟩, ⟨u, x.2.1⟩, ⟨v, x.2.2.1⟩, ⟨w, x.2.2.2⟩]
def pk1 (t : Ty) : t.D -> List (Σ t : Ty, t.D) := fun x => [⟨t, x⟩]
def pk2 (t u : Ty) : t.D × u.D -> List (Σ t : Ty, t.D) := fun x => [⟨t, x.1⟩, ⟨u, x.2⟩]
def pk3 (t u v : Ty) : t.D × u.D × v.D -> List (Σ t : Ty, t.D) := fun x => [⟨t, x.1⟩, ⟨u, x.2.1⟩, ⟨v, x.2.2⟩]
theorem Y4 (t : Ty) (r : t.D) : ∀ xs, un1 t xs = some r -> xs = pk1 t r := by
 intro xs h;unfold un1 at h;split at h
 ·rename_i x;obtain ⟨u, x⟩ := x;split at h
  ·rename_i e;subst e;simp at h;subst h;rfl
  ·simp at h
 ·simp at h
theorem Yg (t u : Ty) (r : t.D × u.D) : ∀ xs, un2 t u xs = some r -> xs = pk2 t u r := by
 intro xs h;unfold un2 at h;split at h
 ·rename_i x y;obtain ⟨t', x⟩ := x;obtain ⟨u', y⟩ := y;split at h
  ·rename_i e;subst e;split at h
   ·rename_i e;subst e;simp at h;subst h;rfl
   ·simp at h
  ·simp at h
 ·simp at h
theorem Ydd (t u v : Ty) (r : t.D × u.D × v.D) : ∀ xs, un3 t u v xs = some r -> xs = pk3 t u v r := by
 intro xs h;unfold un3 at h;split at h
 ·rename_i x y z;obtain ⟨t', x⟩ := x;obtain ⟨u', y⟩ := y;obtain ⟨v', z⟩ := z;split at h
  ·rename_i e;subst e;split at h
   ·rename_i e;subst e;split at h
    ·rename_i e;subst e;simp at h;subst h;rfl
    ·simp at h
   ·simp at h
  ·simp at h
 ·simp at h
theorem Yf3 (t u v w : Ty) (r : t.D × u.D × v.D × w.D) : ∀ xs, un4 t u v w xs = some r -> xs = pk4 t u v w r := by
 intro xs h;unfold un4 at h;split at h
 ·rename_i x y z q;obtain ⟨t', x⟩ := x;obtain ⟨u', y⟩ := y;obtain ⟨v', z⟩ := z;obtain ⟨w', q⟩ := q;split at h
  ·rename_i e;subst e;split at h
   ·rename_i e;subst e;split at h
    ·rename_i e;subst e;split at h
     ·rename_i e;subst e;simp at h;subst h;rfl
     ·simp at h
    ·simp at h
   ·simp at h
  ·simp at h
 ·simp at h
theorem Y4a {es : List (Entry P)} (hT : TabOk P T) (ha : agreeL es = true) (hm : P.follows .mixedOrders = true) (hf : P.funcs[f]? = some fn) (hb : fn.body = some code) {args : List RV} {α : Type} {un : List (Σ t : Ty, t.D) -> Option α} {pk : α -> List (Σ t : Ty, t.D)} (hmu : (sg.box = none /\ sg.newb = none) /\ sg.muts = false /\ sg.own = false) (hu : ∀ r xs, un xs = some r -> xs = pk r) {q : Option α} (h : evFn T (sigL es) caps (orcL es) (drawReg T (sigL es) caps (orcL es)) fuel ann sg fn code args un = q) :
  ∀ x, q = some x -> FnOk P f sg args (pk x) := by
 intro x hx;subst h;unfold FnOk;rw [hmu.1.1, hmu.1.2, hmu.2.1, hmu.2.2];exact Yb7 hT (Y6h ha) hm hf hb hmu.2.1 (fun xs h => hu x xs h) hx
theorem Yp {es : List (Entry P)} (hT : TabOk P T) (ha : agreeL es = true) (hm : P.follows .mixedOrders = true) (hf : P.funcs[f]? = some fn) (hb : fn.body = some code) {b : BoxSig} {x0 : t.D} {args : List RV} {α : Type} {un : List (Σ t : Ty, t.D) -> Option α} {pk : α -> List (Σ t : Ty, t.D)} (hbx : sg.box = some b) (ht : nthL args b.k = some (.ptr t x0)) (hpk : ∀ r, ∃ y ys, pk r = ⟨t, y⟩ :: ys) (hu : ∀ r xs, un xs = some r -> xs = pk r) {q : Option α} (h : evFnB T (sigL es) caps (orcL es) (drawReg T (sigL es) caps (orcL es)) fuel ann sg b fn code args un = q) :
  ∀ x, q = some x -> FnOk P f sg args (pk x) := by
 intro x hx;subst h;unfold FnOk;rw [hbx];obtain ⟨y, ys, e⟩ := hpk x;exact ⟨t, x0, y, ys, ht, e, Ye7 hT (Y6h ha) hm Y6f hf hb ht (fun xs h => (hu x xs h).trans e) hx⟩
theorem Yde {es : List (Entry P)} (hT : TabOk P T) (ha : agreeL es = true) (hm : P.follows .mixedOrders = true) (hf : P.funcs[f]? = some fn) (hb : fn.body = some code) {k : Nat} {x0 : t.D} {rest : List RV} {α : Type} {un : List (Σ t : Ty, t.D) -> Option α} {pk : α -> List (Σ t : Ty, t.D)} (hmu : (sg.box = none /\ sg.newb = none) /\ sg.muts = false /\ sg.own = true /\ sg.give = some k) (hu : ∀ r xs, un xs = some r -> xs = pk r) {q : Option α} (h : evFnG T (sigL es) caps (orcL es) (drawReg T (sigL es) caps (orcL es)) fuel ann k sg fn code (insN k (.val t x0) rest) un = q) :
  ∀ x, q = some x -> FnOk P f sg (insN k (.val t x0) rest) (pk x) := by
 intro x hx;subst h;unfold FnOk;rw [hmu.1.1, hmu.1.2, hmu.2.1, hmu.2.2.1, hmu.2.2.2];exact ⟨t, x0, rest, rfl, Ye6 hT (Y6h ha) hm Y6f hf hb (fun xs h => hu x xs h) hx⟩
theorem Y66 {es : List (Entry P)} (hT : TabOk P T) (ha : agreeL es = true) (hm : P.follows .mixedOrders = true) (hf : P.funcs[f]? = some fn) (hb : fn.body = some code) {args : List RV} {α : Type} {un : List (Σ t : Ty, t.D) -> Option α} {pk : α -> List (Σ t : Ty, t.D)} (hbx : sg.box = none) (hnb : sg.newb = some id) (hpk : ∀ r, ∃ y ys, pk r = ⟨t, y⟩ :: ys) (hu : ∀ r xs, un xs = some r -> xs = pk r) {q : Option α} (h : evFnN T (sigL es) caps (orcL es) (drawReg T (sigL es) caps (orcL es)) fuel ann id t sg.results fn code args un = q) :
  ∀ x, q = some x -> FnOk P f sg args (pk x) := by
 intro x hx;subst h;unfold FnOk;rw [hbx, hnb];obtain ⟨y, ys, e⟩ := hpk x;exact ⟨t, y, ys, e, Ye8 hT (Y6h ha) hm Y6f hf hb (fun xs h => (hu x xs h).trans e) hx⟩
theorem Y1x (hf : P.funcs[f]? = some fn) (hb : fn.body = some code) (hn : (fn.name == "runtime.NumGoroutine") = false) : Enterable P f := ⟨fn, hf, by grind⟩
theorem TEOk.plain {e : TE} {i : TypeInfo} (h1 : P.info? e.id = some i) (h2 : i.size = e.ty.sz) (h3 : i.bytes = e.bytes) (h4 : i.zero = some (zeroVal e.ty)) (ha : e.ty.isAgg = false) (hn : e.fn = false) (hq : e.eq = false)
  (h5 : match e.ty with
   | .int k => P.underlying e.id = some (.int k)
   | .bool => P.underlying e.id = some .bool
   | .str => P.underlying e.id = some .string
   | .slice el _ => P.underlying e.id = some (.slice el)
   | _ => False) : TEOk P e := by
 refine ⟨fun h => (by rw [hn] at h; cases h), fun _ => ⟨i, h1, h2, h3, h4⟩, fun _ => ?_, fun _ h => (by rw [ha] at h; simp at h), fun h => by grind⟩;obtain ⟨id, ty, bytes, fields, fn, eq⟩ := e;cases ty with
 | unit => simp [Ty.isAgg] at ha
 | pair a b => simp [Ty.isAgg] at ha
 | _ => exact h5
def fieldsB : List Field -> List (Nat × TypeId) -> Bool
 | _, [] => true
 | f :: fs, p :: ps => Nat.beq f.offset p.1 && (Nat.beq f.type p.2 && fieldsB fs ps)
 | [], _ :: _ => false
theorem Y4b : ∀ {fs : List Field} {ps : List (Nat × TypeId)}, fieldsB fs ps = true -> ∀ (i off ft : Nat), ps[i]? = some (off, ft) -> ∃ f : Field, fs[i]? = some f /\ f.offset = off /\ f.type = ft
 | fs, [], h, i, off, ft, hi => by simp at hi
 | [], p :: ps, h, i, off, ft, hi => by simp [fieldsB] at h
 | f :: fs, p :: ps, h, i, off, ft, hi => by
  simp only [fieldsB, X9] at h;obtain ⟨h1, h2, h3⟩ := h;cases i with
  | zero => simp_all
  | succ i => simpa using Y4b h3 i off ft (by simpa using hi)
theorem TEOk.struct {e : TE} {i : TypeInfo} {fs : Array Field} {pl : List (Nat × Nat)} (h1 : P.info? e.id = some i) (h2 : i.size = e.ty.sz) (h3 : i.bytes = e.bytes) (h4 : i.zero = some (zeroVal e.ty)) (hu : P.underlying e.id = some (.struct fs)) (hf : fieldsB fs.toList e.fields = true)
  (hp : fs.toList.mapM (fun f => (P.info? f.type).map fun i => (f.offset, i.size)) = some pl) (ha : e.ty.isAgg = true) (hn : e.fn = false) (hq : e.eq = true -> (P.eqGuardType P.depth e.id = false /\ P.stoodInHeld e.id = false) /\ EqFs P fs.toList (flat e.ty) 0) : TEOk P e := by
 refine ⟨fun h => (by grind), fun _ => ⟨i, h1, h2, h3, h4⟩, fun _ => ?_, fun _ _ => ⟨fs, pl, hu, hp⟩, fun h => ⟨(hq h).1, fs, hu, (hq h).2⟩⟩;obtain ⟨id, ty, bytes, fields, fn, eq⟩ := e;cases ty with
 | unit => exact ⟨fs, hu, fun i off ft h => by obtain ⟨f, h1, h2⟩ := Y4b hf i off ft h; exact ⟨f, by grind⟩⟩
 | pair a b => exact ⟨fs, hu, fun i off ft h => by obtain ⟨f, h1, h2⟩ := Y4b hf i off ft h; exact ⟨f, by grind⟩⟩
 | _ => simp [Ty.isAgg] at ha
theorem TEOk.ofFn {e : TE} {i : TypeInfo} {z : Value} {ps rs : Array TypeId} {v : Bool} (h1 : P.info? e.id = some i) (h2 : i.size = 1) (h3 : i.zero = some z) (h4 : z.oneCell' = true) (h5 : P.underlying e.id = some (.func ps rs v)) (hn : e.fn = true) (hq : e.eq = false) : TEOk P e :=
 ⟨fun _ => ⟨i, z, ps, rs, v, h1, h2, h3, h4, h5⟩, fun h => by (rw [hn] at h; cases h), fun h => by (rw [hn] at h; cases h), fun h => by (rw [hn] at h; cases h), fun h => by grind⟩
theorem Yew : TabOk P [] := fun e he => by simp at he
theorem Ye {e : TE} (h : TEOk P e) (hT : TabOk P T) : TabOk P (e :: T) := fun e' he => by
 rcases Xq.1 he with rfl | he
 ·exact h
 ·exact hT e' he
def un : Nat -> Env -> Env
 | 0, l => l
 | n + 1, l => .undef :: un n l
def lf (t : Ty) (x : t.D) (lv : Lvl) : Leaf := ⟨t, x, .at_ lv⟩
def lb (t : Ty) (x : t.D) (r j : Nat) : Leaf := ⟨t, x, .bor r j []⟩
def Wf : (t : Ty) -> t.D -> Prop
 | .int k, x => k.min <= x /\ x <= k.max
 | .bool, _ => True
 | .str, x => x.size <= maxLen
 | .slice _ t, x => x.length <= maxLen /\ ∀ y ∈ x, Wf t y
 | .unit, _ => True
 | .pair a b, x => Wf a x.1 /\ Wf b x.2
def fsB (g : Ty -> TypeId -> Bool) : Ty -> Nat -> List (Nat × TypeId) -> Bool
 | τ, off, [] => decide (τ = .unit)
 | τ, off, p :: ps => Nat.beq p.1 off && (match ps with
  | [] => g τ p.2 || (match τ with | .pair a .unit => g a p.2 | _ => false)
  | _ :: _ => (match τ with | .pair a b => g a p.2 && fsB g b (off + a.sz) ps | _ => false))
def tyB (T : Tab) : Nat -> Ty -> TypeId -> Bool
 | 0, _, _ => false
 | f + 1, τ, tid => match T.te tid with
  | none => false
  | some e => decide (e.ty = τ) && (match τ with
   | .slice el t => tyB T f t el && decide (0 < t.sz)
   | .pair a b => fsB (tyB T f) (.pair a b) 0 e.fields
   | .unit => fsB (tyB T f) .unit 0 e.fields
   | _ => true)
theorem Ydf {f : Nat} {tid : TypeId} (h : tyB T f τ tid = true) : ∃ e, T.te tid = some e /\ e.ty = τ := by
 cases f with
 | zero => simp [tyB] at h
 | succ f =>
  simp [tyB] at h;split at h
  ·simp at h
  ·grind
theorem Y4c (hT : TabOk P T) {f : Nat} {tid : TypeId} (h : tyB T f τ tid = true) : P.cellsOf tid = τ.sz := by
 obtain ⟨e, he, rfl⟩ := Ydf h;obtain ⟨hm, rfl, hfn⟩ := Tab.te_mem he;obtain ⟨i, h1, h2, _⟩ := (hT e hm).info hfn;simp [Program.cellsOf, h1, h2]
section
variable {H : Type} {enc : TypeId × Value -> H} {P : Program} {w : World} {spare : Nat -> Bool} {held : Bool} {T : Tab}
theorem Y7y (hT : TabOk P T) (ih : ∀ (f : Nat) (τ : Ty) (tid : TypeId) (cs : List Value) (d : DataW H × List MemPlace), tyB T f τ tid = true -> DataW.trod enc P w 0 spare held fuel tid cs = some d -> ∃ x, Rep (fun b => b < w.heap.size) w τ .ro cs x [] /\ Wf τ x) {cs : List Value} {f : Nat} :
  ∀ (ps : List (Nat × TypeId)) (τ : Ty) (off : Nat), fsB (tyB T f) τ off ps = true -> off + τ.sz <= cs.length -> (∀ p ∈ ps, ∃ d, DataW.trod enc P w 0 spare held fuel p.2 ((cs.drop p.1).take (P.cellsOf p.2)) = some d) ->
   ∃ x, Rep (fun b => b < w.heap.size) w τ .ro ((cs.drop off).take τ.sz) x [] /\ Wf τ x
 | [], τ, off, h, hl, hp => by
  simp only [fsB, X1a] at h;subst h;exact ⟨(), ⟨by simp [Ty.sz], rfl⟩, trivial⟩
 | p :: ps, τ, off, h, hl, hp => by
  unfold fsB at h;simp only [X9] at h;obtain ⟨h1, h2⟩ := h;have h1 := Nat.eq_of_beq_eq_true h1;obtain ⟨d, hd⟩ := hp p (by simp);rw [h1] at hd;cases ps with
  | nil =>
   simp at h2;rcases h2 with h2 | h2
   ·rw [Y4c hT h2] at hd;exact ih _ _ _ _ _ h2 hd
   ·split at h2
    ·rename_i a;rw [Y4c hT h2] at hd;obtain ⟨x, k1, k2⟩ := ih _ _ _ _ _ h2 hd;exact ⟨(x, ()), ⟨_, [], [], [], by simp [Ty.sz], rfl, k1, rfl, rfl⟩, k2, trivial⟩
    ·simp at h2
  | cons q ps =>
   simp only at h2;split at h2
   ·rename_i a b;simp at h2;obtain ⟨h2, h3⟩ := h2;rw [Y4c hT h2] at hd;obtain ⟨x, k1, k2⟩ := ih _ _ _ _ _ h2 hd;simp [Ty.sz] at hl;obtain ⟨y, m1, m2⟩ := Y7y hT ih (q :: ps) b (off + a.sz) h3 (by omega) (fun p hp' => hp p (X3 _ hp'));refine ⟨(x, y), ⟨_, _, [], [], ?_, rfl, k1, m1⟩, k2, m2⟩;simp [Ty.sz];rw [List.take_add, List.drop_drop]
   ·simp at h2
theorem Y74 {α β : Type} {g : α -> Option β} : ∀ {l : List α} {r : List β}, l.mapM g = some r -> ∀ a ∈ l, ∃ b, g a = some b
 | [], r, h, a, ha => by simp at ha
 | a0 :: l, r, h, a, ha => by
  simp only [X2q, Option.pure_def, Option.bind_eq_bind, Xr] at h;obtain ⟨b, hb, r', hr', _⟩ := h;rcases Xq.1 ha with rfl | ha
  ·exact ⟨b, hb⟩
  ·exact Y74 hr' a ha
theorem Y8s {e : TypeId} {t : Ty} {a : Addr} (n0 : Nat) (hel : ∀ i, i < n0 -> ∃ cs x, cs.length = t.sz /\ (∀ j, j < t.sz -> w.cell? ((a.add (i * t.sz)).add j) = cs[j]?) /\ Rep (fun b => b < w.heap.size) w t .ro cs x [] /\ Wf t x) (hz : 0 < t.sz) :
  ∀ n, n <= n0 -> ∃ (xs : List Value) (x : List t.D), x.length = n /\ El (Rep (fun b => b < w.heap.size) w t .ro) t.sz xs x [] /\ (∀ y ∈ x, Wf t y) /\ ∀ j u, xs[j]? = some u -> a.block < w.heap.size /\ w.cell? (a.add j) = some u
 | 0, _ => ⟨[], [], rfl, ⟨rfl, rfl⟩, by simp, by simp⟩
 | n + 1, hn => by
  obtain ⟨xs, x, h1, h2, h3, h4⟩ := Y8s (e := e) n0 hel hz n (by omega);obtain ⟨cs, y, k1, k2, k3, k4⟩ := hel n (by omega);refine ⟨xs ++ cs, x ++ [y], by simp [h1], ?_, ?_, ?_⟩
  ·exact El.append h2 ⟨cs, [], [], [], by simp, k1, rfl, k3, rfl, rfl⟩
  ·grind
  ·intro j u hu;have hxl : xs.length = n * t.sz := by rw [h2.len, h1]
   by_cases hj : j < xs.length
   ·grind
   ·rw [Xd (by omega)] at hu;have hjl := (X6.1 hu).1;have := k2 (j - xs.length) (by omega);rw [hu] at this;have hadd : (a.add (n * t.sz)).add (j - xs.length) = a.add j := by
     rw [Addr.add_add, <- hxl];congr 1;omega
    rw [hadd] at this;have hlt := X2r w _ this;rw [Addr.add_block] at hlt;exact ⟨hlt, this⟩
theorem Y75 (hT : TabOk P T) : ∀ (fuel f : Nat) (τ : Ty) (tid : TypeId) (cs : List Value) (d : DataW H × List MemPlace), tyB T f τ tid = true -> DataW.trod enc P w 0 spare held fuel tid cs = some d -> ∃ x, Rep (fun b => b < w.heap.size) w τ .ro cs x [] /\ Wf τ x
 | 0, f, τ, tid, cs, d, hb, h => by simp [DataW.trod] at h
 | fuel + 1, 0, τ, tid, cs, d, hb, h => by simp [tyB] at hb
 | fuel + 1, f + 1, τ, tid, cs, d, hb, h => by
  have hsz := Y4c hT hb;simp [tyB] at hb;split at hb
  ·simp at hb
  rename_i e he;simp at hb;obtain ⟨hty, hb⟩ := hb;obtain ⟨hm, hid, hfn⟩ := Tab.te_mem he;have hd := (hT e hm).desc hfn;rw [hid] at hd;rw [hty] at hd;unfold DataW.trod at h;have hstruct : ∀ fs : Array Field, P.underlying tid = some (.struct fs) -> (∀ (i off ft : Nat), e.fields[i]? = some (off, ft) -> ∃ f : Field, fs[i]? = some f /\ f.offset = off /\ f.type = ft) -> fsB (tyB T f) τ 0 e.fields = true -> ∃ x, Rep (fun b => b < w.heap.size) w τ .ro cs x [] /\ Wf τ x := by
   intro fs hu hf hfs;rw [hu] at h;simp only at h;split at h
   ·rename_i hl;rw [hsz] at hl;obtain ⟨r, hr, _⟩ := Xu.1 h;have hall := Y74 hr;obtain ⟨x, k1, k2⟩ := Y7y hT (Y75 hT fuel) (cs := cs) e.fields τ 0 hfs (by omega) (fun p hp => by
     obtain ⟨i, hi⟩ := Xw hp;obtain ⟨fd, g1, g2, g3⟩ := hf i p.1 p.2 hi;obtain ⟨d, hd⟩ := hall fd (by grind);rw [g2, g3] at hd;exact ⟨d, hd⟩)
    rw [List.drop_zero, X2d (by omega)] at k1;exact ⟨x, k1, k2⟩
   ·simp at h
  cases τ with
  | int k =>
   simp only at hd;rw [hd] at h;rcases cs with _ | ⟨v, _ | ⟨v2, tl⟩⟩
   ·simp at h
   ·cases v <;> simp at h;obtain ⟨⟨rfl, h2⟩, _⟩ := h;simp [Lit.wf] at h2;exact ⟨_, ⟨rfl, rfl⟩, h2⟩
   ·simp at h
  | bool =>
   simp only at hd;rw [hd] at h;rcases cs with _ | ⟨v, _ | ⟨v2, tl⟩⟩
   ·simp at h
   ·cases v <;> simp at h;exact ⟨_, ⟨rfl, rfl⟩, trivial⟩
   ·simp at h
  | str =>
   simp only at hd;rw [hd] at h;rcases cs with _ | ⟨v, _ | ⟨v2, tl⟩⟩
   ·simp at h
   ·cases v <;> simp at h;exact ⟨_, ⟨rfl, rfl⟩, h.1⟩
   ·simp at h
  | slice el t =>
   simp at hb;obtain ⟨hb, hpos⟩ := hb;simp only at hd;rw [hd] at h;rcases cs with _ | ⟨v, _ | ⟨v2, tl⟩⟩
   ·simp at h
   ·cases v with
    | slice A len cap =>
     cases A with
     | none =>
      have : len = 0 /\ cap = 0 := by grind
      obtain ⟨rfl, rfl⟩ := this;exact ⟨[], ⟨.slice none 0 0, [], [], [], rfl, rfl, ⟨rfl, rfl⟩, rfl, none, 0, rfl, Xi _, fun _ => rfl, by simp⟩, by simp, by simp⟩
     | some a =>
      simp only at h;split at h
      case isFalse => simp at h
      rename_i hc;obtain ⟨_, h1, h2⟩ := hc;obtain ⟨elems, h3, _⟩ := Xr.1 h;have hsz2 := Y4c hT hb;have hall := Y74 h3;obtain ⟨xs, x, k1, k2, k3, k4⟩ := Y8s (w := w) (e := el) (t := t) (a := a) len (fun i hi => by
       obtain ⟨d, hd⟩ := hall i (X1v.2 hi);obtain ⟨ci, hci, hd⟩ := Xr.1 hd;obtain ⟨_, g1, g2⟩ := World.cells?_some hci;rw [hsz2] at g1 g2;obtain ⟨x, m1, m2⟩ := Y75 hT fuel f t el ci d hb hd;exact ⟨ci, x, g1, g2, m1, m2⟩) hpos len (Xi _)
      refine ⟨x, ⟨.slice (some a) len cap, xs, [], [], rfl, rfl, k2, rfl, some a, cap, by rw [k1], by rw [k1]; exact h1, fun h => by simp at h, fun j u hu => ?_⟩, by show x.length <= maxLen; omega, k3⟩;obtain ⟨m1, m2⟩ := k4 j u hu;exact ⟨a, rfl, m1, m2⟩
    | _ => simp at h
   ·simp at h
  | unit => grind
  | pair a b => grind
end
open Go.RowKit Go.WideShapes
theorem Yec {H : Type} {enc : TypeId × Value -> H} {spare : Nat -> Bool} {held : Bool} (hT : TabOk P T) {r : Go.Reach} {b0 f : Nat} {tid : TypeId} (hb : tyB T f τ tid = true) (hval : Value.okWide P w r b0 tid v) {d : DataW H} {ps : List MemPlace} (hd : DataW.Trod enc P w 0 spare held tid v d ps) :
  ∃ x, RVRel (fun b => b < w.heap.size) w (.val τ x) v /\ Wf τ x := by
 obtain ⟨fuel, hf⟩ := hd;obtain ⟨x, h1, h2⟩ := Y75 hT _ _ _ _ _ _ hb hf;refine ⟨x, ⟨v.cells.toList, ?_, h1⟩, h2⟩;obtain ⟨e, he, rfl⟩ := Ydf hb;obtain ⟨hm, rfl, hfn⟩ := Tab.te_mem he;have hd := (hT e hm).desc hfn;cases hτ : e.ty with
 | int k => rw [hτ] at hd; obtain ⟨n, rfl⟩ := okWide_int hd hval; rfl
 | bool => rw [hτ] at hd; obtain ⟨n, rfl⟩ := okWide_bool hd hval; rfl
 | str => rw [hτ] at hd; obtain ⟨n, rfl⟩ := okWide_string hd hval; rfl
 | slice el t => rw [hτ] at hd; obtain ⟨a, l, c, rfl⟩ := okWide_slice hd hval; rfl
 | unit =>
  rw [hτ] at hd;obtain ⟨fs, hu, _⟩ := hd;simp only [Value.okWide, hu] at hval;obtain ⟨cs, rfl, _⟩ := hval;simp [mkV, Ty.isAgg, Value.cells]
 | pair a b =>
  rw [hτ] at hd;obtain ⟨fs, hu, _⟩ := hd;simp only [Value.okWide, hu] at hval;obtain ⟨cs, rfl, _⟩ := hval;simp [mkV, Ty.isAgg, Value.cells]
theorem Yed {fr : Lvl} {args : List RV} {vals : List Value} (hs : FnSpec P f [(.bool, fr)] args [⟨.bool, true⟩]) (hv : RVRels (fun b => b < w.heap.size) w args vals) :
  Calls P f vals.toArray w fun e w' => e = .returned (.bool true) /\ Below w.heap.size w w' := by
 refine (hs _ w vals hv).mono fun e w' ⟨chs, bs, he, hb, hr, _⟩ => ⟨?_, hb⟩;obtain ⟨x, xs', ch, chs', b, b', e1, e2, e3, h1, h2⟩ := hr;simp at e1;obtain ⟨rfl, rfl⟩ := e1;obtain ⟨_, rfl, rfl⟩ := h2;have hch : ch = [.bool true] := by
  cases fr <;> exact h1.1
 rw [he, e2, hch];rfl
end Go.FP
