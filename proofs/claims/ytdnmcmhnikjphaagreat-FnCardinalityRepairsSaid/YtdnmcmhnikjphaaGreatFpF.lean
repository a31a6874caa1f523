/- How Go values lie in memory, and an evaluator of code with its soundness (part 6 of 7). Conditions: those that stand in each theorem; nothing is assumed of any program. -/
import Derived.Test.YtdnmcmhnikjphaaGreatFpE
import Derived.KernelRfl
import Derived.ProofKit
import Derived.ChangeOld
import Derived.WideShapes
import Derived.ChangeMaps5

set_option linter.unusedVariables false
set_option linter.unusedSimpArgs false
set_option linter.unnecessarySimpa false

namespace Go.FP
open Go.RowKit
variable {R : Type} {P : Program} {T : Tab} {w : World} {env : Env} {Q : Exit -> Act -> World -> Prop} {caps : FuncId -> List Ty} {ls : List Leaf} {x : Operand} {t : Ty} {o : Oper} {a : Act} {v : Value} {d : Nat} {f : FuncId} {e : TypeId} {ann : Nat -> Option (List Nat)} {n : Nat} {k : Kind} {sg : Sig} {lv : Lvl} {τ : Ty} {fuel : Nat} {id : TypeId} {fn : Func} {code : Code}
def Mode.isRo : Mode -> Bool
 | .at_ .ro => true
 | _ => false
def inert (env : Env) : Operand -> Bool
 | .tmp s => match get env s with
  | .con k ls => k.plain && ls.all (fun l => l.m.isRo)
  | .undef => false
  | .grow _ _ _ _ _ => false
  | .sel _ _ _ _ _ _ _ => false
  | .part _ _ _ _ => false
  | .eown _ => false
  | .junk => false
  | _ => true
 | _ => true
theorem Y3a {m : Mode} (h : m.isRo = true) : m = .at_ .ro := by
 cases m with
 | at_ lv => cases lv <;> simp [Mode.isRo] at h ⊢
 | _ => simp [Mode.isRo] at h
theorem Y5v : ∀ {ls : List Leaf} {env : Env}, ls.all (fun l => l.m.isRo) = true -> freezeAll ls env = env
 | [], env, _ => rfl
 | l :: ls, env, h => by
  simp only [List.all_cons, X9] at h;have b := Y3a h.1;unfold freezeAll;rw [b];exact Y5v h.2
theorem Yf0 {s q : Nat} (b : get env s = .con k ls) (g : ls.all (fun l => l.m.isRo) = true) : pull s q env = env := by
 unfold pull;rw [b];split
 ·rename_i t x r j h;have := Y3a (Xa.1 g _ (Yc h));simp at this
 ·rfl
theorem Yah {s : Nat} (b : get env s = .con k ls) (g : ls.all (fun l => l.m.isRo) = true) : ∀ n, pulls s n env = env
 | 0 => rfl
 | n + 1 => by rw [pulls, Yah b g n, Yf0 b g]
theorem Yco {s : Nat} (b : get env s = .con k ls) (g : ls.all (fun l => l.m.isRo) = true) : pullAll (.tmp s) env = env := by
 simp only [pullAll, b];split
 ·exact Yah b g _
 ·rfl
theorem Y58 {ty : Option Ty} {s : Nat} (h : get env s = .con k ls) (p : k.plain = true) (g : ls.all (fun l => l.m.isRo) = true) : takeIn ty env (.tmp s) = some (env, .con k ls) := by
 rw [takeIn, Yco h g];simp only [takeIn0, h, p, X1p, Y5v g];have q : ls.all (fun l => l.m.settled) = true := Xa.2 fun l b => by rw [Y3a (Xa.1 g l b)]; rfl
 have j : ls.any (fun l => l.m.own) = false := by
  cases m : ls.any (fun l => l.m.own) with
  | false => rfl
  | true =>
   obtain ⟨l, b, i⟩ := X1o.1 m;rw [Y3a (Xa.1 g l b)] at i;simp [Mode.own] at i
 rw [X4 gr, j];rfl
theorem Y1a {env env2 : Env} (h : inert env x = true) (j : Agree (opReads env x) env env2) (ty : Option Ty) : ∃ av, takeIn ty env x = some (env, av) /\ takeIn ty env2 x = some (env2, av) /\ inert env2 x = true := by
 cases x with
 | tmp s =>
  have b := j.2 s (by simp [opReads]);cases i : get env s with
  | con k ls =>
   simp only [inert, i, X9] at h;rw [i] at b;exact ⟨_, Y58 i h.1 h.2, Y58 b h.1 h.2, by simp only [inert, b, X9]; exact h⟩
  | undef => simp [inert, i] at h
  | grow _ _ _ _ _ => simp [inert, i] at h
  | sel _ _ _ _ _ _ _ => simp [inert, i] at h
  | part _ _ _ _ => simp [inert, i] at h
  | eown _ => simp [inert, i] at h
  | junk => simp [inert, i] at h
  | skip => rw [i] at b; exact ⟨.skip, by simp only [takeIn, pullAll, takeIn0, i], by simp only [takeIn, pullAll, takeIn0, b], by simp only [inert, b]⟩
  | path r off => rw [i] at b; exact ⟨.path r off, by simp only [takeIn, pullAll, takeIn0, i], by simp only [takeIn, pullAll, takeIn0, b], by simp only [inert, b]⟩
  | eptr ls l => rw [i] at b; exact ⟨.eptr ls l, by simp only [takeIn, pullAll, takeIn0, i], by simp only [takeIn, pullAll, takeIn0, b], by simp only [inert, b]⟩
  | fptr f caps => rw [i] at b; exact ⟨.fptr f caps, by simp only [takeIn, pullAll, takeIn0, i], by simp only [takeIn, pullAll, takeIn0, b], by simp only [inert, b]⟩
  | cloS f caps => rw [i] at b; exact ⟨.cloS f caps, by simp only [takeIn, pullAll, takeIn0, i], by simp only [takeIn, pullAll, takeIn0, b], by simp only [inert, b]⟩
  | cloR f caps => rw [i] at b; exact ⟨.cloR f caps, by simp only [takeIn, pullAll, takeIn0, i], by simp only [takeIn, pullAll, takeIn0, b], by simp only [inert, b]⟩
  | clo f caps => rw [i] at b; exact ⟨.clo f caps, by simp only [takeIn, pullAll, takeIn0, i], by simp only [takeIn, pullAll, takeIn0, b], by simp only [inert, b]⟩
 | const v => exact ⟨_, rfl, rfl, rfl⟩
 | func f => exact ⟨_, rfl, rfl, rfl⟩
 | global g => exact ⟨_, rfl, rfl, rfl⟩
theorem Y1w {env b env2 : Env} (h : inert env x = true) (l : Agree (opReads env x) env env2) (g : takeAs τ env x = some (b, ls)) : b = env /\ takeAs τ env2 x = some (env2, ls) /\ inert env2 x = true := by
 obtain ⟨av, i, j, m⟩ := Y1a h l (some τ);unfold takeAs at g ⊢;rw [i] at g;rw [j];split at g
 ·grind
 ·simp at g
theorem Y2v {env2 : Env} : ∀ {b : List (Nat × Operand)} {env env' : Env} {n : Nat} {xs : List t.D} {dp : Bool}, (∀ p ∈ b, inert env p.2 = true) -> (∀ p ∈ b, Agree (opReads env p.2) env env2) -> elemParts t env n b = some (env', xs, dp) -> env' = env /\ elemParts t env2 n b = some (env2, xs, dp)
 | [], env, env', n, xs, dp, _, _, h => by
  simp only [elemParts, X0, Xw] at h ⊢;exact ⟨h.1.symm, trivial, h.2⟩
 | (i, x) :: b, env, env', n, xs, dp, hi, ha, h => by
  simp only [elemParts] at h ⊢;split at h
  ·rename_i m;rw [X4 m];cases g : takeAs t env x with
   | none => rw [g] at h; simp at h
   | some q =>
    obtain ⟨z, l⟩ := q;obtain ⟨A, k2, _⟩ := Y1w (hi _ Xp) (ha _ Xp) g;subst A;rw [g] at h;rw [k2];simp only at h ⊢;split at h
    ·rename_i v C;split at h
     ·rename_i e2 vs d j;obtain ⟨rfl, B⟩ := Y2v (fun p y => hi p (X3 _ y)) (fun p y => ha p (X3 _ y)) j;rw [B];simp only [X0, Xw] at h ⊢;exact ⟨h.1.symm, trivial, h.2⟩
     ·simp at h
    ·simp at h
  ·simp at h
theorem Y2o {t : TypeId} {env2 : Env} : ∀ {b : List (Nat × Operand)} {env env' : Env} {ls ls' : List Leaf}, (∀ p ∈ b, inert env p.2 = true) -> (∀ p ∈ b, Agree (opReads env p.2) env env2) -> buildParts T t env ls b = some (env', ls') -> env' = env /\ buildParts T t env2 ls b = some (env2, ls')
 | [], env, env', ls, ls', _, _, h => by
  simp only [buildParts, X0, Xw] at h ⊢;exact ⟨h.1.symm, trivial, h.2⟩
 | (f, x) :: b, env, env', ls, ls', hi, ha, h => by
  simp [buildParts] at h ⊢;split at h
  ·rename_i off τ z;cases g : takeAs τ env x with
   | none => rw [g] at h; simp at h
   | some q =>
    obtain ⟨m, l⟩ := q;obtain ⟨y, k2, _⟩ := Y1w (hi _ Xp) (ha _ Xp) g;subst y;rw [g] at h;rw [k2];simp only at h ⊢;split at h
    ·rename_i i;rw [X4 i];exact Y2o (fun p j => hi p (X3 _ j)) (fun p j => ha p (X3 _ j)) h
    ·simp at h
  ·simp at h
theorem Yee (ty : Option Ty) (env : Env) (x : Operand) : ∀ q ∈ rootsOf (rd ty env x), q ∈ opReads env x := by
 have h : ∀ ty v, rootsOf (constAV ty v) = [] := by
  intro ty v;unfold constAV;split
  ·rfl
  ·split
   ·split <;> rfl
   ·rfl
 cases x with
 | tmp s =>
  intro q b;simp [rd] at b;cases i : get env s with
  | con k ls => rw [i] at b; cases k <;> simp [rootsOf] at b ⊢ <;> simp [opReads, b]
  | path r off => rw [i] at b; simp [rootsOf] at b; simp [opReads, i, rootsOf, b]
  | clo f cs => rw [i] at b; simp only [opReads, i]; exact X3 _ b
  | _ => rw [i] at b; simp [rootsOf] at b
 | const v =>
  intro q b;simp [rd] at b;split at b <;> first | (simp [rootsOf] at b; done) | (rw [h] at b; simp at b)
 | func f => intro q b; simp [rd, rootsOf] at b
 | global g => intro q b; simp [rd, rootsOf] at b
theorem Y5w {env env2 : Env} : ∀ {cs : List (Nat × Nat)} {ts : List Ty}, (∀ p ∈ cs, get env2 p.1 = get env p.1) -> capsOf env2 cs ts = capsOf env cs ts
 | [], [], _ => rfl
 | [], t :: ts, _ => rfl
 | p :: cs, [], _ => rfl
 | (q, off) :: cs, t :: ts, h => by
  have b := h (q, off) Xp;simp only [capsOf, Y5w (ts := ts) (fun p g => h p (X3 _ g))];have : ptrOf env2 t q off = ptrOf env t q off := by
   unfold ptrOf;have b : get env2 q = get env q := b;rw [b]
  rw [this]
theorem Y5x {caps : FuncId -> List Ty} {env env2 : Env} : ∀ {ps : List PTy} {vs : List AV}, (∀ v ∈ vs, ∀ q ∈ rootsOf v, get env2 q = get env q) -> RVs caps env2 ps vs = RVs caps env ps vs
 | [], [], _ => rfl
 | [], v :: vs, _ => rfl
 | p :: ps, [], _ => rfl
 | p :: ps, v :: vs, h => by
  have b := h v Xp;have : RVof caps env2 p v = RVof caps env p v := by
   unfold RVof;split
   ·rfl
   ·rename_i t q off;have g : get env2 q = get env q := b q (by simp [rootsOf]);unfold ptrOf;rw [g]
   ·rfl
   ·rfl
   ·rename_i f cs;rw [Y5w (fun p i => b p.1 (by simp only [rootsOf]; exact X1b.2 ⟨p, i, rfl⟩))]
   ·rfl
  simp only [RVs, this, Y5x (ps := ps) (fun v j => h v (X3 _ j))]
theorem Y2w {env env2 : Env} : ∀ {ps : List PTy} {xs : List Operand}, (∀ x ∈ xs, Agree (opReads env x) env env2) -> rdArgs env2 ps xs = rdArgs env ps xs
 | [], xs, _ => by cases xs <;> rfl
 | p :: ps, [], _ => rfl
 | p :: ps, x :: xs, h => by
  simp only [rdArgs];rw [(h x Xp).rd, Y2w (fun y b => h y (X3 _ b))]
theorem Y48 : ∀ {ps : List PTy} {xs : List Operand}, ∀ v ∈ rdArgs env ps xs, ∀ q ∈ rootsOf v, ∃ x ∈ xs, q ∈ opReads env x
 | [], xs, v, b => by cases xs <;> simp [rdArgs] at b
 | p :: ps, [], v, b => by simp [rdArgs] at b
 | p :: ps, x :: xs, v, b => by
  simp [rdArgs] at b;intro q g;rcases b with rfl | b
  ·exact ⟨x, Xp, Yee _ _ _ q g⟩
  ·obtain ⟨y, i, h⟩ := Y48 v b q g;exact ⟨y, X3 _ i, h⟩
section
variable {T : Tab} {sig : FuncId -> Option Sig} {caps : FuncId -> List Ty} {orc : Orc}
def freshSig (sig : FuncId -> Option Sig) (f : FuncId) : Bool := match sig f with
 | some sg => (sg.box.isNone && sg.newb.isNone) && (!sg.muts && (!sg.own && allFresh sg.results))
 | none => false
theorem Y6r {args : List Operand} {extra : List AV} {env F env2 : Env} (M : freshSig sig f = true) (m : (get env d).quiet = true) (h : call1 sig caps orc (some d) f args extra env some = some F) :
  ∃ v, F = put env d v /\ ∀ env2, (∀ x ∈ args, Agree (opReads env x) env env2) -> (∀ v ∈ extra, ∀ q ∈ rootsOf v, get env2 q = get env q) -> (get env2 d).quiet = true -> call1 sig caps orc (some d) f args extra env2 some = some (put env2 d v) := by
 unfold call1 at h;split at h
 ·simp at h
 ·rename_i sg l;have i : (sg.box = none /\ sg.newb = none) /\ sg.muts = false /\ sg.own = false /\ allFresh sg.results = true := by simpa [freshSig, l] using M
  obtain ⟨b, y⟩ := i;have p := y.2.2;simp [b.1, b.2] at h;split at h
  ·rename_i N;rw [X2 gr] at h;split at h
   ·rename_i I;split at h
    ·simp at h
    ·rename_i rvs D;split at h
     ·simp at h
     rename_i q z;obtain ⟨xs, E, h⟩ := Xt.1 h;split at h
     ·simp at h
     ·rename_i v g;simp at h;rw [Y3 m] at h;refine ⟨v, h.symm, fun env2 G L A => ?_⟩;have C := Y2w (ps := sg.params) G;have j : RVs caps env2 sg.params (rdArgs env sg.params args ++ extra) = some rvs := by
       rw [Y5x, D];intro v g q m;rcases X6.1 g with g | g
       ·obtain ⟨x, O, B⟩ := Y48 v g q m;exact (G x O).2 q B
       ·exact L v g q m
      unfold call1;rw [l];simp [b.1, b.2, N, C];rw [X2 gr];rw [X4 I, j];simp [z, E, g];rw [X4 p, Y3 A]
   ·simp at h
  ·grind
end
def allReads (env : Env) (xs : List Operand) : List Nat := xs.flatMap (opReads env)
def footVal (sig : FuncId -> Option Sig) (env : Env) (d : Nat) (o : Oper) : Foot1 :=
 if (get env d).quiet then
  match pureReads env o.op with
  | some Rd => some (d, Rd)
  | none => match o.op with
   | .assign x => if inert env x then some (d, opReads env x) else none
   | .box _ x => if inert env x then some (d, opReads env x) else none
   | .build _ ps => if ps.toList.all (fun p => inert env p.2) then some (d, allReads env (ps.toList.map (·.2))) else none
   | .buildSlice _ _ ps => if ps.toList.all (fun p => inert env p.2) then some (d, allReads env (ps.toList.map (·.2))) else none
   | .slice _ x g b _ => if inert env x then some (d, opReads env x ++ allReads env (g.toList ++ b.toList)) else none
   | .extract x _ => match x with
    | .tmp s => match get env s with
     | .con (.tup _) ls => if ls.all (fun l => !l.m.own) then some (d, [s]) else none
     | _ => none
    | _ => none
   | .call c => match c.callee with
    | .value (.func f) => if freshSig sig f then some (d, allReads env c.args.toList) else none
    | .value (.tmp t) => match get env t with
     | .clo f _ => if freshSig sig f then some (d, opReads env (.tmp t) ++ allReads env c.args.toList) else none
     | _ => none
    | .builtin .len => some (d, allReads env c.args.toList)
    | .builtin .max => some (d, allReads env c.args.toList)
    | .builtin .min => some (d, allReads env c.args.toList)
    | _ => none
   | _ => none
 else none
theorem Yp {env env2 : Env} : ∀ {xs : List Operand}, Agree (allReads env xs) env env2 -> (∀ x ∈ xs, Agree (opReads env x) env env2) /\ allReads env2 xs = allReads env xs
 | [], _ => ⟨sm, rfl⟩
 | x :: xs, h => by
  have g := h.mono (S' := opReads env x) (fun k b => by simp only [allReads, X1u]; exact Xe _ b);have i := h.mono (S' := allReads env xs) (fun k b => by simp only [allReads, X1u]; exact Xf _ b);obtain ⟨l, k2⟩ := Yp i;refine ⟨fun y j => ?_, ?_⟩
  ·grind
  ·simp [allReads] at k2 ⊢;rw [g.reads, k2]
theorem Y59 (h : inert env x = true) : nestB env x = false := by
 cases x with
 | tmp s =>
  cases b : get env s with
  | con k ls =>
   simp only [inert, b, X9] at h;have : (ls.any fun l => l.m.nested) = false := by
    rw [X2g];intro l g;rw [Y3a (Xa.1 h.2 l g)];simp [Mode.nested]
   cases k with
   | box e => simp [Kind.plain] at h
   | _ => simp [nestB, b, this]
  | _ => simp [nestB, b]
 | _ => rfl
theorem Y5y {env env2 : Env} : ∀ {b : Option Operand}, (∀ x ∈ b.toList, Agree (opReads env x) env env2) -> optInt env2 b = optInt env b
 | none, _ => rfl
 | some x, h => by simp [optInt]; rw [(h x sm).rd]
theorem Y5z {ty : Option Ty} {lx : Leaf} (h : inert env x = true) (b : rd ty env x = .con .val [lx]) (e : Env) : freezeAll [lx] e = e := by
 have p : lx.m.settled = true := by
  cases x with
  | tmp s =>
   cases j : get env s with
   | con k ls =>
    simp only [inert, j, X9] at h;cases k with
    | val =>
     simp only [rd, j, AV.con.injEq, true_and] at b;cases ls with
     | nil => simp [borrowFrom] at b
     | cons l ls =>
      simp only [borrowFrom, X2q] at b;have m : l.m.isRo = true := Xa.1 h.2 l sm;rw [Y3a m] at b;simp only [Mode.own, Xm, X19] at b;rw [<- b.1, Y3a m];rfl
    | agg => simp [rd, j] at b
    | tup y => simp [rd, j] at b
    | box e => simp [rd, j] at b
    | tupB i n y => simp [rd, j] at b
   | _ => simp [rd, j] at b
  | const v => exact Yy (ty := ty) (env := env) (env' := env) (x := .const v) (k := .val) (ls := [lx]) (by rw [<- b]; rfl) lx sm
  | func f => simp [rd] at b
  | global g => simp [rd] at b
 simp only [freezeAll];split
 ·rename_i q; rw [q] at p; simp [Mode.settled] at p
 ·rfl
section
variable {T : Tab} {sig : FuncId -> Option Sig} {caps : FuncId -> List Ty} {orc : Orc}
theorem Yai {d t : Nat} {env e1 : Env} {Rd : List Nat} (z : footVal sig env d o = some (t, Rd)) (h : evVal T sig caps orc d o env some = some e1) :
  t = d /\ ∃ v, e1 = put env d v /\ ∀ env2, Agree (d :: Rd) env env2 -> evVal T sig caps orc d o env2 some = some (put env2 d v) /\ footVal sig env2 d o = some (d, Rd) := by
 unfold footVal at z;split at z
 ·rename_i F;have b : ∀ {env2 : Env} {S : List Nat}, Agree (d :: S) env env2 -> (get env2 d).quiet = true := fun j => by rw [j.2 d Xp]; exact F
  have A : ∀ {env2 : Env} {S : List Nat}, Agree (d :: S) env env2 -> Agree S env env2 := fun j => j.mono (fun k X => X3 _ X);cases E : pureReads env o.op with
  | some Rd0 =>
   rw [E] at z;simp at z;obtain ⟨rfl, rfl⟩ := z;obtain ⟨v, e, k⟩ := Yde E F h;refine ⟨rfl, v, e, fun env2 j => ?_⟩;obtain ⟨k1, k2⟩ := k env2 (A j) (b j);exact ⟨k1, by unfold footVal; rw [X4 (b j), k2]⟩
  | none =>
   rw [E] at z;simp only at z;have B : ∀ env2 : Env, pureReads env2 o.op = none := by
    intro env2;cases g : o.op <;> rw [g] at E <;> simp [pureReads] at E ⊢
   cases g : o.op with
   | assign x =>
    rw [g] at z;simp only at z;split at z
    ·rename_i I;simp at z;obtain ⟨rfl, rfl⟩ := z;simp [evVal, g] at h;obtain ⟨av, k1, _, _⟩ := Y1a I (env2 := env) ⟨rfl, fun _ _ => rfl⟩ (T.ty o.type);rw [Y59 I, k1] at h;simp at h;rw [Y3 F] at h;refine ⟨rfl, av, h.symm, fun env2 j => ?_⟩;obtain ⟨av', k1', k2', Y⟩ := Y1a I (A j) (T.ty o.type);rw [k1] at k1';simp only [X0, Xw] at k1';refine ⟨by simp only [evVal, g]; rw [Y59 Y, k2']; simp only [Xm, X19]; rw [Y3 (b j), <- k1'.2], ?_⟩;unfold footVal;rw [X4 (b j), B env2];simp only [g, Y, X1p, (A j).reads]
    ·simp at z
   | box e x =>
    rw [g] at z;simp only at z;split at z
    ·rename_i I;simp at z;obtain ⟨rfl, rfl⟩ := z;simp [evVal, g] at h;split at h
     ·rename_i τ he;split at h
      ·rename_i env' ls hta;obtain ⟨rfl, _, _⟩ := Y1w I (env2 := env) ⟨rfl, fun _ _ => rfl⟩ hta;simp at h;rw [Y3 F] at h;refine ⟨rfl, _, h.symm, fun env2 j => ?_⟩;obtain ⟨_, k2', Y⟩ := Y1w I (A j) hta;refine ⟨by simp [evVal, g]; rw [he]; simp only; rw [k2']; simp only; rw [Y3 (b j)], ?_⟩;unfold footVal;rw [X4 (b j), B env2];simp only [g, Y, X1p, (A j).reads]
      ·simp at h
     ·simp at h
    ·simp at z
   | build t' ps =>
    rw [g] at z;simp only at z;split at z
    ·rename_i I;simp at z;obtain ⟨rfl, rfl⟩ := z;have L : ∀ p ∈ ps.toList, inert env p.2 = true := fun p E => Xa.1 I p E;simp [evVal, g] at h;split at h
     ·rename_i τ he;split at h
      ·rename_i hag;split at h
       ·rename_i env' ls W;obtain ⟨rfl, _⟩ := Y2o L (env2 := env) (fun _ _ => ⟨rfl, fun _ _ => rfl⟩) W;simp at h;rw [Y3 F] at h;refine ⟨rfl, _, h.symm, fun env2 j => ?_⟩;obtain ⟨G, M⟩ := Yp (A j);have N : ∀ p ∈ ps.toList, Agree (opReads env' p.2) env' env2 := fun p E => G _ (X1b.2 ⟨p, E, rfl⟩);obtain ⟨_, k2⟩ := Y2o L N W;have hi2 : ps.toList.all (fun p => inert env2 p.2) = true := Xa.2 fun p E => (Y1a (L p E) (N p E) none).choose_spec.2.2;refine ⟨by simp [evVal, g]; rw [he]; simp only; rw [X4 hag, k2]; simp only; rw [Y3 (b j)], ?_⟩;unfold footVal;rw [X4 (b j), B env2];simp [g, hi2, M]
       ·simp at h
      ·simp at h
     ·simp at h
    ·simp at z
   | buildSlice t' n ps =>
    rw [g] at z;simp only at z;split at z
    ·rename_i I;simp at z;obtain ⟨rfl, rfl⟩ := z;have L : ∀ p ∈ ps.toList, inert env p.2 = true := fun p E => Xa.1 I p E;simp [evVal, g] at h;split at h
     ·rename_i te he;split at h
      ·rename_i D;split at h
       ·rename_i env' xs dp W;obtain ⟨rfl, _⟩ := Y2v L (env2 := env) (fun _ _ => ⟨rfl, fun _ _ => rfl⟩) W;simp at h;rw [Y3 F] at h;refine ⟨rfl, _, h.symm, fun env2 j => ?_⟩;obtain ⟨G, M⟩ := Yp (A j);have N : ∀ p ∈ ps.toList, Agree (opReads env' p.2) env' env2 := fun p E => G _ (X1b.2 ⟨p, E, rfl⟩);obtain ⟨_, k2⟩ := Y2v L N W;have hi2 : ps.toList.all (fun p => inert env2 p.2) = true := Xa.2 fun p E => (Y1a (L p E) (N p E) none).choose_spec.2.2;refine ⟨by simp [evVal, g]; rw [he]; simp only; rw [X4 D, k2]; simp only; rw [Y3 (b j)], ?_⟩;unfold footVal;rw [X4 (b j), B env2];simp [g, hi2, M]
       ·simp at h
      ·simp at h
     ·simp at h
    ·simp at z
   | slice t' x lo I mx =>
    rw [g] at z;simp only at z;split at z
    ·rename_i hin;simp at z;obtain ⟨rfl, rfl⟩ := z;have V : ∀ env2, Agree (d :: (opReads env x ++ allReads env (lo.toList ++ I.toList))) env env2 -> footVal sig env2 d o = some (d, opReads env x ++ allReads env (lo.toList ++ I.toList)) /\ (∀ ty, rd ty env2 x = rd ty env x) /\ optInt env2 lo = optInt env lo /\ optInt env2 I = optInt env I := fun env2 j => by
      have a0 := (A j).mono (S' := opReads env x) (fun k X => Xe _ X);obtain ⟨G, M⟩ := Yp ((A j).mono (fun k X => Xf _ X));obtain ⟨_, _, _, a3⟩ := Y1a hin a0 none;refine ⟨?_, fun ty => a0.rd ty, Y5y (fun y hy => G y (by simp at hy ⊢; simp [hy])), Y5y (fun y hy => G y gr)⟩;unfold footVal;rw [X4 (b j), B env2];simp [g, a3, a0.reads, M]
     simp only [evVal, g] at h;split at h
     ·simp at h
     ·split at h
      ·rename_i va vb hva hvb;split at h
       ·rename_i sx hsx;split at h
        ·rename_i hty;have D : (decide (0 <= va.getD 0) && (decide (va.getD 0 <= vb.getD (sx.size : Int)) && decide (vb.getD (sx.size : Int) <= (sx.size : Int)))) = true := by
          cases hcc : (decide (0 <= va.getD 0) && (decide (va.getD 0 <= vb.getD (sx.size : Int)) && decide (vb.getD (sx.size : Int) <= (sx.size : Int)))) with
          | true => rfl
          | false => rw [hcc] at h; simp at h
         rw [D] at h;simp only [X2k, X0] at h;rw [Y3 F] at h;refine ⟨rfl, _, h.symm, fun env2 j => ?_⟩;obtain ⟨b1, b2, b3, b4⟩ := V env2 j;refine ⟨?_, b1⟩;simp only [evVal, g, b2, b3, b4, hva, hvb, hsx, hty, D, X2k];rw [Y3 (b j)]
        ·simp at h
       ·rename_i hsx;split at h
        ·rename_i te hte;split at h
         ·rename_i lx U;split at h
          ·rename_i xs has;split at h
           ·simp at h
           ·rename_i hl;have D : (decide (0 <= va.getD 0) && (decide (va.getD 0 <= vb.getD (xs.length : Int)) && decide (vb.getD (xs.length : Int) <= (xs.length : Int)))) = true := by
             cases hcc : (decide (0 <= va.getD 0) && (decide (va.getD 0 <= vb.getD (xs.length : Int)) && decide (vb.getD (xs.length : Int) <= (xs.length : Int)))) with
             | true => rfl
             | false => rw [hcc] at h; simp at h
            rw [D] at h;simp only [X2k, X0] at h;rw [Y5z hin U, Y3 F] at h;refine ⟨rfl, _, h.symm, fun env2 j => ?_⟩;obtain ⟨b1, b2, b3, b4⟩ := V env2 j;refine ⟨?_, b1⟩;simp only [evVal, g, b2, b3, b4, hva, hvb, hsx, hte, U, has, D, X2k];rw [X2 hl, Y5z hin U, Y3 (b j)]
          ·simp at h
         ·simp at h
        ·simp at h
      ·simp at h
    ·simp at z
   | extract x i =>
    rw [g] at z;simp only at z;split at z
    ·rename_i s;split at z
     ·rename_i sh ls hs;split at z
      ·rename_i hno;simp at z;obtain ⟨rfl, rfl⟩ := z;simp only [evVal, g, hs] at h;split at h
       ·rename_i off agg n ho;have Z : (takeLs n (dropLs off ls)).any (fun l => l.m.own) = false := by
         cases j : (takeLs n (dropLs off ls)).any (fun l => l.m.own) with
         | false => rfl
         | true =>
          obtain ⟨l, hl, hlo⟩ := X1o.1 j;rw [Yq, Yr] at hl;have := Xa.1 hno l (X26 (X27 hl));rw [hlo] at this;simp at this
        split at h
        ·rename_i hlive;simp only [Z, Xm, X19, X0] at h;rw [Y3 F] at h;refine ⟨rfl, _, h.symm, fun env2 j => ?_⟩;have hs2 : get env2 s = .con (.tup sh) ls := (j.2 s sm).trans hs;refine ⟨by simp only [evVal, g, hs2, ho]; rw [X4 hlive]; simp only [Z, Xm, X19]; rw [Y3 (b j)], ?_⟩;unfold footVal;rw [X4 (b j), B env2];simp [g, hs2, hno]
        ·simp at h
       ·simp at h
      ·simp at z
     ·simp at z
    ·simp at z
   | call cl =>
    rw [g] at z;simp only at z;split at z
    ·rename_i f D;split at z
     ·rename_i O;simp at z;obtain ⟨rfl, rfl⟩ := z;simp [evVal, g, D] at h;obtain ⟨v, e, k⟩ := Y6r (env2 := env) O F h;refine ⟨rfl, v, e, fun env2 j => ?_⟩;obtain ⟨G, M⟩ := Yp (A j);refine ⟨by simp [evVal, g, D]; exact k env2 G sm (b j), ?_⟩;unfold footVal;rw [X4 (b j), B env2];simp [g, D, O, M]
     ·simp at z
    ·rename_i t' D;split at z
     ·rename_i f cs ht;split at z
      ·rename_i O;simp at z;obtain ⟨rfl, rfl⟩ := z;simp [evVal, g, D, ht] at h;obtain ⟨v, e, k⟩ := Y6r (env2 := env) O F h;refine ⟨rfl, v, e, fun env2 j => ?_⟩;have W := (A j).mono (S' := opReads env (.tmp t')) (fun k X => Xe _ X);obtain ⟨G, M⟩ := Yp ((A j).mono (fun k X => Xf _ X));have ht2 : get env2 t' = .clo f cs := (W.2 t' (by simp [opReads])).trans ht;refine ⟨by
        simp [evVal, g, D, ht2];refine k env2 G (fun v hv q F => ?_) (b j);simp only [X1b] at hv;obtain ⟨p, E, rfl⟩ := hv;simp [rootsOf] at F;refine W.2 q ?_;simp only [opReads, ht, rootsOf];exact X3 _ (X1b.2 ⟨p, E, F.symm⟩), ?_⟩
       unfold footVal;rw [X4 (b j), B env2];simp [g, D, ht2, O, M, W.reads]
      ·simp at z
     ·simp at z
    ·rename_i D;simp at z;obtain ⟨rfl, rfl⟩ := z;have V : ∀ env2, Agree (d :: allReads env cl.args.toList) env env2 -> footVal sig env2 d o = some (d, allReads env cl.args.toList) := fun env2 j => by
      unfold footVal;rw [X4 (b j), B env2];simp only [g, D, (Yp (A j)).2]
     simp [evVal, g, D] at h;split at h
     ·rename_i x t' C htys;have hx : ∀ env2, Agree (d :: allReads env cl.args.toList) env env2 -> Agree (opReads env x) env env2 := fun env2 j => (Yp (A j)).1 x gr;split at h
      ·rename_i s hs;split at h
       ·rename_i ht;simp at h;rw [Y3 F] at h;exact ⟨rfl, _, h.symm, fun env2 j => ⟨by simp [evVal, g, D, C, htys]; rw [(hx env2 j).rd, hs]; simp only; rw [ht]; simp only; rw [Y3 (b j)], V env2 j⟩⟩
       ·simp at h
      ·rename_i hs;split at h
       ·rename_i e τ ht;split at h
        ·rename_i lx U;split at h
         ·rename_i xs hxs;split at h
          ·rename_i hl;simp at h;rw [Y3 F] at h;exact ⟨rfl, _, h.symm, fun env2 j => ⟨by simp [evVal, g, D, C, htys]; rw [(hx env2 j).rd, hs]; simp only; rw [ht]; simp only; rw [(hx env2 j).rd, U]; simp only; rw [hxs]; simp only; rw [X4 hl, Y3 (b j)], V env2 j⟩⟩
          ·simp at h
         ·simp at h
        ·simp at h
       ·simp at h
     ·simp at h
    ·rename_i D;simp at z;obtain ⟨rfl, rfl⟩ := z;simp [evVal, g, D] at h;split at h
     ·rename_i x y C;split at h
      ·rename_i k n k' m hx hy;split at h
       ·rename_i hkk;simp at h;rw [Y3 F] at h;refine ⟨rfl, _, h.symm, fun env2 j => ?_⟩;obtain ⟨G, M⟩ := Yp (A j);refine ⟨by simp [evVal, g, D, C]; rw [(G x (by rw [C]; simp)).rd, (G y gr).rd, hx, hy]; simp only; rw [X4 hkk, Y3 (b j)], ?_⟩;unfold footVal;rw [X4 (b j), B env2];simp [g, D, M]
       ·simp at h
      ·simp at h
     ·simp at h
    ·rename_i D;simp at z;obtain ⟨rfl, rfl⟩ := z;simp [evVal, g, D] at h;split at h
     ·rename_i x y C;split at h
      ·rename_i k n k' m hx hy;split at h
       ·rename_i hkk;simp at h;rw [Y3 F] at h;refine ⟨rfl, _, h.symm, fun env2 j => ?_⟩;obtain ⟨G, M⟩ := Yp (A j);refine ⟨by simp [evVal, g, D, C]; rw [(G x (by rw [C]; simp)).rd, (G y (by simp_all)).rd, hx, hy]; simp only; rw [X4 hkk, Y3 (b j)], ?_⟩;unfold footVal;rw [X4 (b j), B env2];simp [g, D, M]
       ·simp at h
      ·simp at h
     ·simp at h
    ·simp at z
   | _ => grind
 ·simp at z
end
structure DS where
 ts : List Nat := []
 bx : List Nat := []
def AV.free (TS : DS) (v : AV) : Bool := (v.refs.all fun q => !TS.ts.contains q.1 && !TS.bx.contains q.1) && v.ptrs.all fun q => !TS.ts.contains q
def AV.isBox : AV -> Bool
 | .con (.box _) _ => true
 | _ => false
abbrev Fr (TS : DS) : Nat -> AV -> Prop := fun r v => v.free TS = true /\ (r ∈ TS.bx -> v.isBox = true)
theorem Ydf {TS : DS} {s j : Nat} (C : s ∈ TS.bx) {v : AV} (h : v.free TS = true) : v.chg (freezeG s j) = v := by
 simp only [AV.free, X9, Xa, X1k, X1h, X2a] at h;obtain ⟨A, _⟩ := h;have b : ∀ q ∈ v.refs, ¬ (q.1 = s /\ q.2 = j) := fun q g e => (A q g).2 (e.1 ▸ C);have z : ∀ l : Leaf, (∀ q ∈ l.refs, ¬ (q.1 = s /\ q.2 = j)) -> l.chg (freezeG s j) = l := by
  intro l B;obtain ⟨t, x, m⟩ := l;cases m with
  | at_ _ => rfl
  | dead => rfl
  | bor r j p => simp only [Leaf.chg, freezeG]; rw [X2 (B (r, j) (by simp [Leaf.refs]))]
 have leaves : ∀ ls : List Leaf, (∀ q ∈ ls.flatMap Leaf.refs, ¬ (q.1 = s /\ q.2 = j)) -> chgs (freezeG s j) ls = ls := by
  intro ls
  induction ls with
  | nil => intro _; rfl
  | cons l ls D =>
   intro y;rw [chgs, z l (fun q g => y q (by simp [g])), D (fun q g => y q (by rw [X1u]; exact Xf _ g))]
 cases v with
 | con k ls => simp only [AV.chg]; rw [leaves ls b]
 | path r off => rfl
 | eptr ls E =>
  cases E with
  | none => simp only [AV.chg]; rw [leaves ls (fun q g => b q (by simp only [AV.refs, Xh]; exact g))]
  | some w =>
   simp only [AV.chg];rw [leaves ls (fun q g => b q (by simp only [AV.refs]; exact Xe _ g)), X2 (by simpa [freezeG] using b (w.1, w.2.1) (by simp [AV.refs]))]
 | clo f caps => simp [AV.chg, freezeG]
 | fptr f caps => simp [AV.chg, freezeG]
 | cloS f caps => simp [AV.chg, freezeG]
 | grow r j i o l => simp only [AV.chg]; rw [X2 (by simpa [freezeG] using b (r, j) (by simp [AV.refs]))]
 | sel r j e e2 t ix x => simp only [AV.chg]; rw [X2 (by simpa [freezeG] using b (r, j) (by simp [AV.refs]))]
 | _ => rfl
theorem Y60 {TS : DS} {s j : Nat} (b : s ∈ TS.bx) : ∀ {env : Env}, (∀ r, (get env r).free TS = true) -> chgEnv (freezeG s j) env = env
 | [], _ => rfl
 | v :: env, h => by
  show v.chg _ :: chgEnv _ env = _;have g : v.free TS = true := h 0;rw [Ydf b g, Y60 b (fun r => h (r + 1))]
def giveV : AV -> Nat -> List Leaf -> AV
 | v, _, [] => v
 | v, j, l :: ls => giveV (if l.m.own then (match v.leaf? j with
   | some b => if b.m.own then v.setLeaf j b.ro else v
   | none => v) else v) (j + 1) ls
theorem Yaj {TS : DS} {v : AV} {j : Nat} {l : Leaf} (g : l.refs = []) (h : v.free TS = true) : (v.setLeaf j l).free TS = true := by
 cases v with
 | con k ls =>
  simp only [AV.free, X9, Xa] at h ⊢;exact ⟨fun q b => h.1 q (Y3t g q b), fun q b => h.2 q (by simpa [AV.setLeaf, AV.ptrs] using b)⟩
 | _ => exact h
theorem Yef {TS : DS} {s : Nat} {w : AV} (h : ∀ r, (get env r).free TS = true) (b : w.free TS = true) : ∀ r, (get (put env s w) r).free TS = true := fun r => by
 rw [Y16];split
 ·exact b
 ·exact h r
theorem Y2g {TS : DS} {s : Nat} (g : s ∈ TS.bx) : ∀ (ls : List Leaf) (j : Nat) {env : Env}, s < env.length -> (∀ r, (get env r).free TS = true) -> giveUp s j ls env = put env s (giveV (get env s) j ls)
 | [], j, env, _, h => (Y2n rfl).symm
 | l :: ls, j, env, hl, h => by
  rw [giveUp, giveV];by_cases i : l.m.own = true
  ·rw [X4 i, X4 i];unfold freeze;split
   ·rename_i m;rw [m];exact Y2g g ls (j + 1) hl h
   ·rename_i p m;rw [m];simp only;by_cases b : p.m.own = true
    ·rw [X4 b, X4 b, Y60 g h];have q := Yef (s := s) h (Yaj (j := j) (l := p.ro) rfl (h s));rw [Y2g g ls (j + 1) (by rw [Y5]; exact hl) q, Y4w, Y16, X4 ⟨rfl, hl⟩]
    ·rw [X2 b, X2 b];exact Y2g g ls (j + 1) hl h
  ·rw [X2 i, X2 i];exact Y2g g ls (j + 1) hl h
def stV (τ : Ty) (ls : List Leaf) : AV -> Option AV
 | .con (.box e0) old =>
  if 0 + τ.sz <= old.length /\ ((takeLs τ.sz (dropLs 0 old)).map Leaf.t) = flat τ then
   match giveV (.con (.box e0) old) 0 (takeLs τ.sz (dropLs 0 old)) with
   | .con (.box e) old2 => if (0 + τ.sz <= old2.length /\ ((takeLs τ.sz (dropLs 0 old2)).all fun l => !l.m.own) = true) /\ e.free 0 τ.sz = true then some (.con (.box e) (setLeaves old2 0 ls)) else none
   | _ => none
  else none
 | _ => none
section
variable {T : Tab} {TS : DS}
theorem Y7v {t : TypeId} {s : Nat} {v : Operand} {p : BoxK} {l : List Leaf} (y : s ∈ TS.bx) (m : s < env.length) (h : ∀ r, (get env r).free TS = true) (i : get env s = .con (.box p) l) (z : T.ty t = some τ) (j : takeAs τ env v = some (env, ls)) :
  storePlain T t (.tmp s) v env some = (stV τ ls (get env s)).map (put env s) := by
 have q : rd none env (.tmp s) = .path s 0 := by simp only [rd, i]
 unfold storePlain;rw [z];simp only [j, q, i, stV];split
 ·rw [Y2g y _ 0 m h, Y16, X4 ⟨rfl, m⟩, i];split
  ·rename_i e b g;simp only [g];split
   ·simp only [X1w, Y4w]
   ·rfl
  ·rename_i A;split
   ·rename_i e b g;exact absurd g (A e b)
   ·rfl
 ·rfl
end
def footStore (T : Tab) (TS : DS) (env : Env) (o : Oper) : Foot := match o.op with
 | .store t (.tmp s) v => match get env s with
  | .con (.box _) _ => if (TS.bx.contains s && !T.isFn t) && inert env v then some ([s], opReads env v) else none
  | _ => none
 | _ => none
theorem Ycp {v : Operand} (h : inert env v = true) : growOf env v = none := by
 cases v with
 | tmp s => cases b : get env s <;> simp_all [inert, growOf]
 | _ => rfl
section
variable {T : Tab} {TS : DS} {sig : FuncId -> Option Sig} {caps : FuncId -> List Ty} {orc : Orc}
theorem Y8e {env G : Env} {W Rd : List Nat} (Z : o.dst = none) (X : AllJ (Fr TS) env) (j : footStore T TS env o = some (W, Rd)) (h : evOp T sig caps orc o env some = some G) :
  ∃ vs, vs.length = W.length /\ G = puts env W vs /\ ∀ env2, AllJ (Fr TS) env2 -> Agree (W ++ Rd) env env2 -> evOp T sig caps orc o env2 some = some (puts env2 W vs) /\ footStore T TS env2 o = some (W, Rd) := by
 unfold footStore at j;split at j
 ·rename_i t s v C;split at j
  ·rename_i e0 old B;split at j
   ·rename_i U;simp only [X9, X1k, X1h, X1a] at U;obtain ⟨⟨O, A⟩, q⟩ := U;simp only [X0, Xw] at j;obtain ⟨rfl, rfl⟩ := j;have V : s < env.length := by
     rcases Nat.lt_or_ge s env.length with I | I
     ·exact I
     ·rw [Y11 env s I] at B; simp at B
    have z : ∀ env2, evOp T sig caps orc o env2 some = store1 T t (.tmp s) v env2 some := fun env2 => by
     unfold evOp; rw [Z]; simp only [C]
    have g : ∀ env2, inert env2 v = true -> store1 T t (.tmp s) v env2 some = storePlain T t (.tmp s) v env2 some := fun env2 hi => by
     unfold store1;rw [X2 (by rw [A]; simp), Ycp hi]
    rw [z, g env q] at h;obtain ⟨τ, D⟩ : ∃ τ, T.ty t = some τ := by
     cases D : T.ty t with
     | none => unfold storePlain at h; rw [D] at h; simp at h
     | some τ => exact ⟨τ, rfl⟩
    obtain ⟨b, ls, i⟩ : ∃ b ls, takeAs τ env v = some (b, ls) := by
     cases i : takeAs τ env v with
     | none => unfold storePlain at h; rw [D] at h; simp only [i] at h; simp at h
     | some p => exact ⟨p.1, p.2, rfl⟩
    obtain ⟨rfl, _, _⟩ := Y1w (env2 := env) q ⟨rfl, fun _ _ => rfl⟩ i;rw [Y7v O V (fun r => (X r).1) B D i] at h;obtain ⟨F, Y, rfl⟩ : ∃ F, stV τ ls (get b s) = some F /\ put b s F = G := by
     simpa [Xv] using h
    refine ⟨[F], rfl, rfl, fun env2 L M => ?_⟩;have m : get env2 s = get b s := M.2 s sm;have y : Agree (opReads b v) b env2 := M.mono (fun k hk => by simp [hk]);obtain ⟨_, E, l⟩ := Y1w q y i;have N : s < env2.length := by rw [M.1]; exact V
    refine ⟨?_, ?_⟩
    ·rw [z, g env2 l, Y7v O N (fun r => (L r).1) (m.trans B) D E, m, Y];rfl
    ·unfold footStore;rw [C];simp only [m, B];rw [X4 (by simp [O, A, l]), y.reads]
   ·simp at j
  ·simp at j
 ·simp at j
end
def ownRow : AV -> Bool
 | .con .val [⟨.slice _ te, _, .at_ .dp⟩] => te.flatB
 | .con .val [⟨.slice _ te, _, .at_ .sh⟩] => te.flatB
 | _ => false
def isTmp (s : Nat) : Operand -> Bool
 | .tmp s' => Nat.beq s s'
 | _ => false
def footApp (T : Tab) (TS : DS) (env : Env) (d : Nat) (o : Oper) : Foot := match o.op with
 | .call c => match c.callee with
  | .builtin .append => match c.args.toList, c.argTypes.toList with
   | [.tmp ts, x], [t, _] => match elemAt T t with
    | some te => if (TS.ts.contains ts && !(Nat.beq d ts)) && ((get env d).quiet && ((ownRow (get env ts) && te.ty.flatB) && !isTmp ts x)) then some ([ts, d], opReads env x) else none
    | none => none
   | _, _ => none
  | _ => none
 | _ => none
def isAt : Mode -> Bool
 | .at_ _ => true
 | _ => false
def takes (TS : DS) (env : Env) (x : Operand) : Option (List Nat × List Nat) :=
 if inert env x then some ([], opReads env x) else match x with
  | .tmp s => match get env s with
   | .con k ls => if (TS.ts.contains s && k.plain) && (ls.all (fun l => isAt l.m) && ls.any fun l => l.m.own) then some ([s], []) else none
   | _ => none
  | _ => none
def gone (W : List Nat) : List AV := W.map fun _ => AV.undef
def takesAll (TS : DS) : Env -> List Operand -> Option (List Nat × List Nat)
 | _, [] => some ([], [])
 | env, x :: xs => match takes TS env x with
  | some (W, R) => match takesAll TS (puts env W (gone W)) xs with
   | some (W', R') => some (W ++ W', R ++ R')
   | none => none
  | none => none
def footTake (TS : DS) (env : Env) (d : Nat) (o : Oper) : Foot := if (get env d).quiet then match o.op with
  | .build _ ps => match takesAll TS env (ps.toList.map (·.2)) with
   | some (W, R) => if W.contains d then none else some (W ++ [d], R)
   | none => none
  | .buildSlice _ _ ps => match takesAll TS env (ps.toList.map (·.2)) with
   | some (W, R) => if W.contains d then none else some (W ++ [d], R)
   | none => none
  | .assign x => match takes TS env x with
   | some (W, R) => if W.contains d then none else some (W ++ [d], R)
   | none => none
  | _ => none
 else match o.op with
  | .assign (.tmp s) => if TS.ts.contains d && !(Nat.beq d s) then match takes TS env (.tmp s) with
   | some ([s'], []) => if Nat.beq s s' then some ([s, d], []) else none
   | some ([], R) => if inert env (.tmp s) then some ([d], R) else none
   | _ => none
   else none
  | _ => none
def footBox (sig : FuncId -> Option Sig) (TS : DS) (env : Env) (d : Nat) (o : Oper) : Foot := match o.op with
 | .call c => match c.callee with
  | .value (.func f) => match sig f with
   | some sg => match sg.box with
    | some b => match nthL (rdArgs env sg.params c.args.toList) b.k with
     | some (.path r 0) => if ((get env d).quiet && TS.bx.contains r) && (!(Nat.beq d r) && sg.params.all fun p => decide (p ≠ .self)) then some ([r, d], allReads env c.args.toList) else none
     | _ => none
    | none => none
   | none => none
  | _ => none
 | _ => none
def footPtr (TS : DS) (env : Env) (d : Nat) (o : Oper) : Foot := match o.op with
 | .move (.tmp s) => if (get env d).quiet && TS.bx.contains s then some ([d], []) else none
 | _ => none
def isBuild : Op -> Bool
 | .build _ _ => true
 | .buildSlice _ _ _ => true
 | .assign _ => true
 | _ => false
def Foot.reads (xs : List Nat) : Foot -> Foot
 | some (W, R) => some (W, xs ++ R)
 | none => none
def footRun (T : Tab) (sig : FuncId -> Option Sig) (TS : DS) (o : Oper) (env : Env) : Foot := match o.dst with
 | some d => if isBuild o.op then footTake TS env d o else match footPtr TS env d o with
  | some f => some f
  | none => match footVal sig env d o with
  | some (t, R) => some ([t], R)
  | none => match footBox sig TS env d o with
   | some f => some f
   | none => footApp T TS env d o
 | none => footStore T TS env o
def footSkip (o : Oper) (env : Env) : Foot := match o.dst with
 | some d => if (get env d).quiet then some ([d], []) else none
 | none => none
def footG (T : Tab) (sig : FuncId -> Option Sig) (TS : DS) (ops : Array Oper) (o : Oper) (env : Env) : Foot := match o.guard with
 | none => footRun T sig TS o env
 | some (j, want) => match (ops[j]?).bind (·.dst) with
  | none => none
  | some g => match get env g with
   | .skip => Foot.reads [g] (footSkip o env)
   | .con .val [⟨.bool, b, .at_ .ro⟩] => if b = want then Foot.reads [g] (footRun T sig TS o env) else Foot.reads [g] (footSkip o env)
   | _ => none
theorem Yeg {TS : DS} {s : Nat} (B : s ∈ TS.ts) {v : AV} (h : v.free TS = true) : v.chg (killG s) = v := by
 simp only [AV.free, X9, Xa, X1k, X1h, X2a] at h;obtain ⟨C, D⟩ := h;have y : ∀ q ∈ v.refs, q.1 ≠ s := fun q b e => (C q b).1 (e ▸ B);have g : ∀ q ∈ v.ptrs, q ≠ s := fun q b e => D q b (e ▸ B);have A : ∀ l : Leaf, (∀ q ∈ l.refs, q.1 ≠ s) -> l.chg (killG s) = l := by
  intro l E;obtain ⟨t, x, m⟩ := l;cases m with
  | at_ _ => rfl
  | dead => rfl
  | bor r j p => simp only [Leaf.chg, killG]; rw [X2 (E (r, j) (by simp [Leaf.refs]))]
 have leaves : ∀ ls : List Leaf, (∀ q ∈ ls.flatMap Leaf.refs, q.1 ≠ s) -> chgs (killG s) ls = ls := by
  intro ls
  induction ls with
  | nil => intro _; rfl
  | cons l ls F =>
   intro z;rw [chgs, A l (fun q b => z q (by simp [b])), F (fun q b => z q (by simp_all))]
 cases v with
 | con k ls => simp only [AV.chg]; rw [leaves ls y]
 | path r off => simp only [AV.chg]; rw [X2 (by simpa [killG] using g r (by simp [AV.ptrs]))]
 | eptr ls G =>
  cases G with
  | none => simp only [AV.chg]; rw [leaves ls (fun q b => y q (by simp only [AV.refs, Xh]; exact b))]
  | some w =>
   simp only [AV.chg];rw [leaves ls (fun q b => y q (by simp only [AV.refs]; exact Xe _ b)), X2 (by simpa [killG] using y (w.1, w.2.1) (by simp [AV.refs]))]
 | clo f caps =>
  simp only [AV.chg];rw [X2];simp only [X1o, not_exists, not_and];intro q b;simpa [killG] using g q.1 (by simp only [AV.ptrs, X1b]; exact ⟨q, b, rfl⟩)
 | fptr f caps =>
  simp only [AV.chg];rw [X2];simp;intro q b;simpa [killG] using g q b
 | cloS f caps =>
  simp only [AV.chg];rw [X2];simp;intro q b;simpa [killG] using g q b
 | grow r j i o l => simp only [AV.chg]; rw [X2 (by simpa [killG] using y (r, j) (by simp [AV.refs]))]
 | sel r j e e2 t ix x => simp only [AV.chg]; rw [X2 (by simpa [killG] using y (r, j) (by simp [AV.refs]))]
 | _ => rfl
theorem Y4u {TS : DS} {s : Nat} (b : s ∈ TS.ts) : ∀ {env : Env}, (∀ r, (get env r).free TS = true) -> chgEnv (killG s) env = env
 | [], _ => rfl
 | v :: env, h => by
  show v.chg _ :: chgEnv _ env = _;have g : v.free TS = true := h 0;rw [Yeg b g, Y4u b (fun r => h (r + 1))]
theorem Y8t {TS : DS} {s : Nat} (B : s ∈ TS.ts) {v : AV} (h : v.free TS = true) : v.chg (forgetG s) = v := by
 simp only [AV.free, X9, Xa, X1k, X1h, X2a] at h;obtain ⟨C, D⟩ := h;have y : ∀ q ∈ v.refs, q.1 ≠ s := fun q b e => (C q b).1 (e ▸ B);have g : ∀ q ∈ v.ptrs, q ≠ s := fun q b e => D q b (e ▸ B);have A : ∀ l : Leaf, (∀ q ∈ l.refs, q.1 ≠ s) -> l.chg (forgetG s) = l := by
  intro l E;obtain ⟨t, x, m⟩ := l;cases m with
  | at_ _ => rfl
  | dead => rfl
  | bor r j p => simp only [Leaf.chg, forgetG]; rw [X2 (E (r, j) (by simp [Leaf.refs]))]
 have leaves : ∀ ls : List Leaf, (∀ q ∈ ls.flatMap Leaf.refs, q.1 ≠ s) -> chgs (forgetG s) ls = ls := by
  intro ls
  induction ls with
  | nil => intro _; rfl
  | cons l ls F =>
   intro z;rw [chgs, A l (fun q b => z q (by simp [b])), F (fun q b => z q (by rw [X1u]; exact Xf _ b))]
 cases v with
 | con k ls => simp only [AV.chg]; rw [leaves ls y]
 | path r off => simp only [AV.chg]; rw [X2 (by simpa [forgetG] using g r (by simp [AV.ptrs]))]
 | eptr ls G =>
  cases G with
  | none => simp only [AV.chg]; rw [leaves ls (fun q b => y q (by simp only [AV.refs, Xh]; exact b))]
  | some w =>
   simp only [AV.chg];rw [leaves ls (fun q b => y q (by simp only [AV.refs]; exact Xe _ b)), X2 (by simpa [forgetG] using y (w.1, w.2.1) (by simp [AV.refs]))]
 | clo f caps =>
  simp only [AV.chg];rw [X2];simp only [X1o, not_exists, not_and];intro q b;simpa [forgetG] using g q.1 (by simp only [AV.ptrs, X1b]; exact ⟨q, b, rfl⟩)
 | fptr f caps =>
  simp only [AV.chg];rw [X2];simp only [X1o, not_exists, not_and];intro q b;simpa [forgetG] using g q b
 | cloS f caps =>
  simp only [AV.chg];rw [X2];simp only [X1o, not_exists, not_and];intro q b;simpa [forgetG] using g q b
 | grow r j i o l => simp only [AV.chg]; rw [X2 (by simpa [forgetG] using y (r, j) (by simp [AV.refs]))]
 | sel r j e e2 t ix x => simp only [AV.chg]; rw [X2 (by simpa [forgetG] using y (r, j) (by simp [AV.refs]))]
 | _ => rfl
theorem Y49 {TS : DS} {s : Nat} (b : s ∈ TS.ts) : ∀ {env : Env}, (∀ r, (get env r).free TS = true) -> chgEnv (forgetG s) env = env
 | [], _ => rfl
 | v :: env, h => by
  show v.chg _ :: chgEnv _ env = _;have g : v.free TS = true := h 0;rw [Y8t b g, Y49 b (fun r => h (r + 1))]
theorem Ydg {TS : DS} {s : Nat} (C : s ∈ TS.bx) {v : AV} (h : v.free TS = true) : v.chg (renewG s) = v := by
 simp only [AV.free, X9, Xa, X1k, X1h, X2a] at h;obtain ⟨A, _⟩ := h;have b : ∀ q ∈ v.refs, q.1 ≠ s := fun q g e => (A q g).2 (e ▸ C);have z : ∀ l : Leaf, (∀ q ∈ l.refs, q.1 ≠ s) -> l.chg (renewG s) = l := by
  intro l B;obtain ⟨t, x, m⟩ := l;cases m with
  | at_ _ => rfl
  | dead => rfl
  | bor r j p => simp only [Leaf.chg, renewG]; rw [X2 (B (r, j) (by simp [Leaf.refs]))]
 have leaves : ∀ ls : List Leaf, (∀ q ∈ ls.flatMap Leaf.refs, q.1 ≠ s) -> chgs (renewG s) ls = ls := by
  intro ls
  induction ls with
  | nil => intro _; rfl
  | cons l ls D =>
   intro y;rw [chgs, z l (fun q g => y q (by simp [g])), D (fun q g => y q gr)]
 cases v with
 | con k ls => simp only [AV.chg]; rw [leaves ls b]
 | path r off => rfl
 | eptr ls E =>
  cases E with
  | none => simp only [AV.chg]; rw [leaves ls (fun q g => b q (by simp only [AV.refs, Xh]; exact g))]
  | some w =>
   simp only [AV.chg];rw [leaves ls (fun q g => b q (by simp only [AV.refs]; exact Xe _ g)), X2 (by simpa [renewG] using b (w.1, w.2.1) (by simp [AV.refs]))]
 | clo f caps => simp [AV.chg, renewG]
 | fptr f caps => simp [AV.chg, renewG]
 | cloS f caps => simp [AV.chg, renewG]
 | grow r j i o l => simp only [AV.chg]; rw [X2 (by simpa [renewG] using b (r, j) (by simp [AV.refs]))]
 | sel r j e e2 t ix x => simp only [AV.chg]; rw [X2 (by simpa [renewG] using b (r, j) (by simp [AV.refs]))]
 | _ => rfl
theorem Y61 {TS : DS} {s : Nat} (b : s ∈ TS.bx) : ∀ {env : Env}, (∀ r, (get env r).free TS = true) -> chgEnv (renewG s) env = env
 | [], _ => rfl
 | v :: env, h => by
  show v.chg _ :: chgEnv _ env = _;have g : v.free TS = true := h 0;rw [Ydg b g, Y61 b (fun r => h (r + 1))]
theorem Ybm {caps : FuncId -> List Ty} {env : Env} {r : Nat} : ∀ {ps : List PTy} {vs : List AV}, (ps.all fun p => decide (p ≠ .self)) = true -> RVsX caps env r ps vs = RVs caps env ps vs
 | [], [], _ => rfl
 | [], _ :: _, _ => rfl
 | _ :: _, [], _ => rfl
 | p :: ps, v :: vs, h => by
  simp only [List.all_cons, X9, X1a] at h;have b : RVofX caps env r p v = RVof caps env p v := by
   cases p with
   | self => exact absurd rfl h.1
   | _ => rfl
  simp only [RVsX, RVs, b, Ybm (ps := ps) (vs := vs) h.2]
theorem Yb8 {v : AV} (h : ownRow v = true) : ∃ e te xs lv, v = .con .val [⟨.slice e te, xs, .at_ lv⟩] /\ te.flatB = true /\ (lv = .dp \/ lv = .sh) := by
 unfold ownRow at h;split at h
 ·grind
 ·grind
 ·simp at h
theorem Yak {TS : DS} {ts : Nat} {te : Ty} {ss : List te.D} (l : AllJ (Fr TS) env) (j : ts ∈ TS.ts) (h : get env ts = .con .val [⟨.slice e te, ss, .at_ lv⟩]) (i : lv = .dp \/ lv = .sh) (ty : Ty) :
  grabS ty env (.tmp ts) = some (put env ts .undef, .con .val [⟨.slice e te, ss, .at_ lv⟩]) := by
 have m : pullAll (.tmp ts) env = env := by
  simp only [pullAll, h, Kind.plain, X1p, X30, pulls];unfold pull;rw [h];rfl
 have g : (Mode.at_ lv).own = true := by rcases i with rfl | rfl <;> rfl
 have b : takeIn (some ty) env (.tmp ts) = some (put env ts .undef, .con .val [⟨.slice e te, ss, .at_ lv⟩]) := by
  unfold takeIn;rw [m];simp only [takeIn0, h, Kind.plain, X1p, freezeAll];rw [X4 ⟨trivial, by simp [Mode.settled]⟩];simp only [List.any_cons, g, Bool.true_or, X1p];unfold killRoot;rw [Y4u j (fun r => (l r).1)]
 unfold grabS;simp [h];exact b
theorem Y7w {TS : DS} {d ts : Nat} {t : TypeId} {b : TE} {te : Ty} {ss : List te.D} {lx : Leaf} {xs s' : List b.ty.D} (z : elemAt T t = some b) (m : b.ty.flatB = true) (y : AllJ (Fr TS) env) (q : ts ∈ TS.ts) (D : d ≠ ts) (C : (get env d).quiet = true) (A : get env ts = .con .val [⟨.slice e te, ss, .at_ lv⟩]) (h : lv = .dp \/ lv = .sh)
  (p : rd (some (.slice b.id b.ty)) env x = .con .val [lx]) (j : lx.as (.slice b.id b.ty) = some xs) (B : lx.m.live = true) (g : (⟨.slice e te, ss, .at_ lv⟩ : Leaf).as (.slice b.id b.ty) = some s') :
  append1 T (some d) t (.tmp ts) x env some = appendTo b lv s' xs fun l => some (puts env [ts, d] [.undef, .con .val [l]]) := by
 have i : (get (put env ts .undef) d).quiet = true := by
  rw [Y16];split
  ·rfl
  ·exact C
 unfold append1;simp [z, m, p, j, B];unfold appendS;rw [Yak y q A h];simp [g];rcases h with rfl | rfl
 ·simp;congr 1;funext l;rw [Y3 i]; rfl
 ·simp only;congr 1;funext l;rw [Y3 i]; rfl
theorem Y8f {TS : DS} {env l : Env} {d ts : Nat} {t : TypeId} {b : TE} {te : Ty} {ss : List te.D} (q : elemAt T t = some b) (g : b.ty.flatB = true) (m : AllJ (Fr TS) env) (j : ts ∈ TS.ts) (y : get env ts = .con .val [⟨.slice e te, ss, .at_ lv⟩]) (i : lv = .dp \/ lv = .sh)
  (h : append1 T (some d) t (.tmp ts) x env some = some l) : ∃ (lx : Leaf) (xs s' : List b.ty.D), rd (some (.slice b.id b.ty)) env x = .con .val [lx] /\ lx.as (.slice b.id b.ty) = some xs /\ lx.m.live = true /\ (⟨.slice e te, ss, .at_ lv⟩ : Leaf).as (.slice b.id b.ty) = some s' := by
 unfold append1 at h;simp [q, g] at h;split at h
 ·rename_i lx z;split at h
  ·rename_i xs p;split at h
   ·rename_i A;unfold appendS at h;rw [Yak m j y i] at h;simp only at h;split at h
    ·grind
    ·simp at h
   ·simp at h
  ·simp at h
 ·simp at h
section
variable {T : Tab} {sig : FuncId -> Option Sig} {caps : FuncId -> List Ty} {orc : Orc} {TS : DS}
theorem Yb9 {c : Call} (g : o.op = .call c) (b : c.callee = .builtin .append) : footVal sig env d o = none := by
 unfold footVal;split
 ·simp [g, pureReads, b]
 ·rfl
theorem Yal {env Z : Env} {W Rd : List Nat} (hJ : AllJ (Fr TS) env) (b : footApp T TS env d o = some (W, Rd)) (h : evVal T sig caps orc d o env some = some Z) :
  ∃ vs, vs.length = W.length /\ Z = puts env W vs /\ ∀ env2, AllJ (Fr TS) env2 -> Agree (W ++ Rd) env env2 -> evVal T sig caps orc d o env2 some = some (puts env2 W vs) /\ footVal sig env2 d o = none /\ footApp T TS env2 d o = some (W, Rd) := by
 unfold footApp at b;split at b
 ·rename_i c U;split at b
  ·rename_i M;split at b
   ·rename_i ts x t t0 g y;split at b
    ·rename_i t1 E;split at b
     ·rename_i i;simp at i;obtain ⟨⟨l, N⟩, V, ⟨q, j⟩, Y⟩ := i;have p : d ≠ ts := fun e => by simp_all
      simp at b;obtain ⟨rfl, rfl⟩ := b;obtain ⟨e, te, ss, lv, F, _, z⟩ := Yb8 q
      -- the operation, in any such environment
      have C : ∀ (env' : Env), get env' ts = get env ts -> evVal T sig caps orc d o env' some = if t = t0 then append1 T (some d) t (.tmp ts) x env' some else none := by
       intro env' O;have hn : nestOf env' (.tmp ts) = none := by
        first
         | rfl
         | (unfold nestOf; simp [O, F])
       simp [evVal, U, M, g, y, hn]
      rw [C env rfl] at h;split at h
      ·rename_i X;obtain ⟨lx, xs, s1, D, A, hl, m⟩ := Y8f E j hJ l F z h;rw [Y7w E j hJ l p V F z D A hl m] at h;obtain ⟨hb, h⟩ := Y1p h;simp at h;refine ⟨[.undef, .con .val [⟨.slice t1.id t1.ty, s1 ++ xs, .at_ lv⟩]], rfl, h.symm, fun env2 I L => ?_⟩;have h1 : get env2 d = get env d := L.2 d sm;have G : get env2 ts = get env ts := L.2 ts sm;have B : Agree (opReads env x) env env2 := L.mono (S' := opReads env x) (fun k hk => Xf _ hk);refine ⟨?_, Yb9 U M, ?_⟩
       ·rw [C env2 G, X4 X, Y7w E j I l p (by rw [h1]; exact V) (by rw [G]; exact F) z (by rw [B.rd]; exact D) A hl m];unfold appendTo;rw [hb]; rfl
       ·unfold footApp;simp only [U, M, g, y, E];rw [h1, G, B.reads, X4];simp [l, N, V, q, Y, j]
      ·simp at h
     ·simp at b
    ·simp at b
   ·simp at b
  ·simp at b
 ·simp at b
theorem Y26 : ∀ (W g : List Nat) (vs b : List AV) (env : Env), vs.length = W.length -> puts env (W ++ g) (vs ++ b) = puts (puts env W vs) g b
 | [], g, [], b, env, _ => by simp [puts]
 | [], g, _ :: _, b, env, h => by simp at h
 | w :: W, g, [], b, env, h => by simp at h
 | w :: W, g, v :: vs, b, env, h => by simp [puts]; exact Y26 W g vs b _ (by simpa using h)
theorem Y1f (W : List Nat) : (gone W).length = W.length := by simp [gone]
theorem Y3g (W b : List Nat) : gone (W ++ b) = gone W ++ gone b := by simp [gone]
theorem Y3o {TS : DS} : ∀ {W : List Nat} {env : Env}, (∀ w ∈ W, w ∉ TS.bx) -> AllJ (Fr TS) env -> AllJ (Fr TS) (puts env W (gone W))
 | [], env, hW, h => by simpa [puts, gone] using h
 | w :: W, env, hW, h => by
  show AllJ (Fr TS) (puts (put env w .undef) W (gone W));refine Y3o (fun w' b => hW w' (X3 _ b)) (fun r => ?_);rw [Y16];split
  ·rename_i i;exact ⟨by simp [AV.free, AV.refs, AV.ptrs], fun g => absurd (i.1 ▸ g) (hW w Xp)⟩
  ·exact h r
theorem Y3h {TS : DS} {W Rd : List Nat} (g : AllJ (Fr TS) env) (h : takes TS env x = some (W, Rd)) : ∀ w ∈ W, w ∉ TS.bx := by
 unfold takes at h;split at h
 ·grind
 ·split at h
  ·rename_i s _;split at h
   ·rename_i k ls j;split at h
    ·rename_i b;simp at h;obtain ⟨rfl, _⟩ := h;simp at b;intro w l i;obtain rfl : w = s := by simpa using l
     have := (g w).2 i;rw [j] at this;cases k with
     | box e => have := b.1.2; simp [Kind.plain] at this
     | _ => simp [AV.isBox] at this
    ·simp at h
   ·simp at h
  ·simp at h
theorem Y7x {W S : List Nat} {vs : List AV} {env env2 : Env} (i : vs.length = W.length) (h : Agree S env env2) : Agree S (puts env W vs) (puts env2 W vs) := by
 refine ⟨by rw [Y25, Y25]; exact h.1, fun k g => ?_⟩;by_cases b : k ∈ W
 ·exact Y4t b i h.1
 ·rw [Y10 b, Y10 b]; exact h.2 k g
theorem Y73 {TS : DS} {s : Nat} {ty : Option Ty} (E : AllJ (Fr TS) env) (I : s ∈ TS.ts) (A : get env s = .con k ls) (C : k.plain = true) (y : ls.all (fun l => isAt l.m) = true) (p : ls.any (fun l => l.m.own) = true) : takeIn ty env (.tmp s) = some (put env s .undef, .con k ls) := by
 have g : ∀ l ∈ ls, ∃ lv, l.m = .at_ lv := fun l m => by
  have := Xa.1 y l m;cases D : l.m with
  | at_ lv => exact ⟨lv, rfl⟩
  | bor _ _ _ => rw [D] at this; simp [isAt] at this
  | dead => rw [D] at this; simp [isAt] at this
 have i : ∀ q, pull s q env = env := fun q => by
  unfold pull;rw [A];split
  ·rename_i t x r j G;obtain ⟨lv, e⟩ := g _ (Yc G);simp at e
  ·rfl
 have b : ∀ n, pulls s n env = env := fun n => by
  induction n with
  | zero => rfl
  | succ n B => rw [pulls, B, i]
 have z : ∀ {L : List Leaf}, (∀ l ∈ L, ∃ lv, l.m = .at_ lv) -> freezeAll L env = env := by
  intro L
  induction L with
  | nil => intro _; rfl
  | cons l L B =>
   intro h;obtain ⟨lv, e⟩ := h l Xp;unfold freezeAll;rw [e];exact B (fun l m => h l (X3 _ m))
 have F : pullAll (.tmp s) env = env := by
  simp [pullAll, A, C, b]
 unfold takeIn;rw [F];simp only [takeIn0, A, C, X1p, z g];rw [X4 ⟨trivial, Xa.2 fun l m => by obtain ⟨lv, e⟩ := g l m; rw [e]; rfl⟩];simp [p];unfold killRoot;rw [Y4u I (fun r => (E r).1)]
theorem Y2x {TS : DS} {W Rd : List Nat} (ty : Option Ty) (F : AllJ (Fr TS) env) (h : takes TS env x = some (W, Rd)) : ∃ v, takeIn ty env x = some (puts env W (gone W), v) /\
  ∀ env2, AllJ (Fr TS) env2 -> Agree (W ++ Rd) env env2 -> takeIn ty env2 x = some (puts env2 W (gone W), v) /\ takes TS env2 x = some (W, Rd) := by
 unfold takes at h;split at h
 ·rename_i b;simp at h;obtain ⟨rfl, rfl⟩ := h;obtain ⟨av, A, _, _⟩ := Y1a b ⟨rfl, fun _ _ => rfl⟩ ty;refine ⟨av, by simpa [puts, gone] using A, fun env2 _ q => ?_⟩;have j : Agree (opReads env x) env env2 := by simpa using q
  obtain ⟨E, z, k2, G⟩ := Y1a b j ty;rw [A] at z;simp at z;subst z;exact ⟨by simpa [puts, gone] using k2, by unfold takes; rw [X4 G, j.reads]⟩
 ·rename_i b;split at h
  ·rename_i s;split at h
   ·rename_i k ls y;split at h
    ·rename_i B;simp at h;obtain ⟨rfl, rfl⟩ := h;simp only [X9, X1h, X1a] at B;obtain ⟨⟨D, C⟩, l, g⟩ := B;refine ⟨.con k ls, Y73 F D y C l g, fun env2 p q => ?_⟩;have i : get env2 s = .con k ls := (q.2 s sm).trans y;refine ⟨Y73 p D i C l g, ?_⟩;have m : ¬ inert env2 (.tmp s) = true := by
      simp [inert, i];simp [inert, y] at b;exact b
     unfold takes;rw [X2 m];simp only [i];rw [X4 gr]
    ·simp at h
   ·simp at h
  ·simp at h
theorem Y4i {b : Env} {v : AV} (h : takeIn (some t) env x = some (b, v)) : takeAs t env x = (match v with
  | .con k ls => if typedAs ls t && decide (k = t.kind) then some (b, ls) else none
  | _ => none) := by
 cases v <;> simp [takeAs, h]
theorem Y4j {TS : DS} {s : TypeId} : ∀ {b : List (Nat × Operand)} {env e1 : Env} {ls ls1 : List Leaf} {W Rd : List Nat}, AllJ (Fr TS) env -> takesAll TS env (b.map (·.2)) = some (W, Rd) -> buildParts T s env ls b = some (e1, ls1) ->
  e1 = puts env W (gone W) /\ ∀ env2, AllJ (Fr TS) env2 -> Agree (W ++ Rd) env env2 -> buildParts T s env2 ls b = some (puts env2 W (gone W), ls1) /\ takesAll TS env2 (b.map (·.2)) = some (W, Rd)
 | [], env, e1, ls, ls1, W, Rd, hJ, ht, hb => by
  simp [takesAll] at ht;obtain ⟨rfl, rfl⟩ := ht;simp [buildParts] at hb;obtain ⟨rfl, rfl⟩ := hb;exact ⟨by simp [puts], fun env2 _ _ => ⟨by simp [buildParts, puts], rfl⟩⟩
 | (f, x) :: b, env, e1, ls, ls1, W, Rd, hJ, ht, hb => by
  simp [takesAll] at ht;split at ht
  ·rename_i h A m;split at ht
   ·rename_i C B D;simp at ht;obtain ⟨rfl, rfl⟩ := ht;simp [buildParts] at hb;split at hb
    ·rename_i off t F;obtain ⟨v, G, k2⟩ := Y2x (some t) hJ m;rw [Y4i G] at hb;split at hb
     ·rename_i env' l g;split at g
      ·rename_i V I;split at g
       ·rename_i E;simp at g;obtain ⟨rfl, rfl⟩ := g;split at hb
        ·rename_i y;obtain ⟨r1, U⟩ := Y4j (Y3o (Y3h hJ m) hJ) D hb;refine ⟨by rw [r1, Y3g, Y26 _ _ _ _ _ (Y1f _)], fun env2 i z => ?_⟩;have p : Agree (h ++ A) env env2 := z.mono (fun k j => by rcases X6.1 j with j | j <;> simp [j]);have q : Agree (C ++ B) (puts env h (gone h)) (puts env2 h (gone h)) := Y7x (Y1f _) (z.mono (fun k j => gr));obtain ⟨L, M⟩ := k2 env2 i p;obtain ⟨N, O⟩ := U _ (Y3o (Y3h hJ m) i) q;refine ⟨?_, by simp [takesAll, M, O]⟩;simp [buildParts, F];rw [Y4i L];simp [E, y];rw [N, Y3g, Y26 _ _ _ _ _ (Y1f _)]
        ·simp at hb
       ·simp at g
      ·simp at g
     ·simp at hb
    ·simp at hb
   ·simp at ht
  ·simp at ht
theorem Y4y {TS : DS} : ∀ {b : List (Nat × Operand)} {n : Nat} {env e1 : Env} {vs : List t.D} {dp : Bool} {W Rd : List Nat}, AllJ (Fr TS) env -> takesAll TS env (b.map (·.2)) = some (W, Rd) -> elemParts t env n b = some (e1, vs, dp) ->
  e1 = puts env W (gone W) /\ ∀ env2, AllJ (Fr TS) env2 -> Agree (W ++ Rd) env env2 -> elemParts t env2 n b = some (puts env2 W (gone W), vs, dp) /\ takesAll TS env2 (b.map (·.2)) = some (W, Rd)
 | [], n, env, e1, vs, dp, W, Rd, hJ, ht, hb => by
  simp [takesAll] at ht;obtain ⟨rfl, rfl⟩ := ht;simp [elemParts] at hb;obtain ⟨rfl, rfl, rfl⟩ := hb;exact ⟨by simp [puts], fun env2 _ _ => ⟨by simp [elemParts, puts], rfl⟩⟩
 | (i, x) :: b, n, env, e1, vs, dp, W, Rd, hJ, ht, hb => by
  simp [takesAll] at ht;split at ht
  ·rename_i j E y;split at ht
   ·rename_i G F I;simp at ht;obtain ⟨rfl, rfl⟩ := ht;simp only [elemParts] at hb;split at hb
    ·rename_i D;obtain ⟨v, M, k2⟩ := Y2x (some t) hJ y;rw [Y4i M] at hb;split at hb
     ·rename_i env' l g;split at g
      ·rename_i k0 N;split at g
       ·rename_i L;simp at g;obtain ⟨rfl, rfl⟩ := g;split at hb
        ·rename_i v0 B;split at hb
         ·rename_i q Z d0 p;simp at hb;obtain ⟨rfl, rfl, rfl⟩ := hb;obtain ⟨r1, Y⟩ := Y4y (Y3o (Y3h hJ y) hJ) I p;refine ⟨by rw [r1, Y3g, Y26 _ _ _ _ _ (Y1f _)], fun env2 m C => ?_⟩;have z : Agree (j ++ E) env env2 := C.mono (fun k h => by rcases X6.1 h with h | h <;> simp [h]);have A : Agree (G ++ F) (puts env j (gone j)) (puts env2 j (gone j)) := Y7x (Y1f _) (C.mono (fun k h => by rcases X6.1 h with h | h <;> simp [h]));obtain ⟨O, U⟩ := k2 env2 m z;obtain ⟨V, X⟩ := Y _ (Y3o (Y3h hJ y) m) A;refine ⟨?_, by simp [takesAll, U, X]⟩;simp [elemParts, D];rw [Y4i O];simp [L, B];subst D;rw [V, Y3g, Y26 _ _ _ _ _ (Y1f _)]
         ·simp at hb
        ·simp at hb
       ·simp at g
      ·simp at g
     ·simp at hb
    ·simp at hb
   ·simp at ht
  ·simp at ht
theorem Y27 {TS : DS} {W Rd : List Nat} (h : takes TS env x = some (W, Rd)) : nestB env x = false := by
 unfold takes at h;split at h
 ·rename_i g;exact Y59 g
 ·split at h
  ·rename_i s;split at h
   ·rename_i k ls q;split at h
    ·rename_i i;simp only [X9, X1h, X1a] at i;obtain ⟨⟨A, y⟩, b, j⟩ := i;have p : (ls.any fun l => l.m.nested) = false := by
      rw [X2g];intro l m;have := Xa.1 b l m;cases z : l.m <;> simp_all [isAt, Mode.nested]
     cases k <;> simp_all [nestB, Kind.plain]
    ·simp at h
   ·simp at h
  ·simp at h
theorem Ycq {TS : DS} {env q : Env} {s : Nat} {v : AV} (ty : Option Ty) (y : AllJ (Fr TS) env) (h : takes TS env (.tmp s) = some ([s], [])) (i : takeIn ty env (.tmp s) = some (q, v)) (d : Nat) : v.chg (forgetG d) = v := by
 unfold takes at h;split at h
 ·simp at h
 ·simp only at h
  ·split at h
   ·rename_i k ls p;split at h
    ·rename_i j;simp only [X9, X1h, X1a] at j;obtain ⟨⟨A, z⟩, b, g⟩ := j;have := Y73 (ty := ty) y A p z b g;rw [this] at i;simp only [X0, Xw] at i;obtain ⟨_, rfl⟩ := i;simp only [AV.chg];congr 1;clear g p this h
     induction ls with
     | nil => rfl
     | cons l ls B =>
      simp only [List.all_cons, X9] at b;rw [chgs, B b.2];congr 1;obtain ⟨t, x, m⟩ := l;cases m with
      | at_ _ => rfl
      | dead => rfl
      | bor _ _ _ => simp [isAt] at b
    ·simp at h
   ·simp at h
def R0of : Option (List Nat × List Nat) -> List Nat
 | some (_, R) => R
 | none => []
theorem Y7y {s : Nat} {ty : Option Ty} (h : inert env (.tmp s) = true) : takeIn ty env (.tmp s) = some (env, get env s) := by
 cases b : get env s with
 | con k ls =>
  simp only [inert, b, X9] at h;exact Y58 b h.1 h.2
 | undef => simp [inert, b] at h
 | grow _ _ _ _ _ => simp [inert, b] at h
 | sel _ _ _ _ _ _ _ => simp [inert, b] at h
 | part _ _ _ _ => simp [inert, b] at h
 | eown _ => simp [inert, b] at h
 | junk => simp [inert, b] at h
 | _ => simp only [takeIn, pullAll, takeIn0, b]
theorem Y97 {env X : Env} {W Rd : List Nat} (F : AllJ (Fr TS) env) (b : footTake TS env d o = some (W, Rd)) (h : evVal T sig caps orc d o env some = some X) :
  ∃ vs, vs.length = W.length /\ X = puts env W vs /\ ∀ env2, AllJ (Fr TS) env2 -> Agree (W ++ Rd) env env2 -> evVal T sig caps orc d o env2 some = some (puts env2 W vs) /\ footTake TS env2 d o = some (W, Rd) := by
 have fin : ∀ {l R0 : List Nat} {v : AV}, (get env d).quiet = true -> l.contains d = false -> W = l ++ [d] -> Rd = R0 -> X = setD (some d) (puts env l (gone l)) v -> (∀ env2, AllJ (Fr TS) env2 -> Agree (l ++ R0) env env2 -> (get env2 d).quiet = true -> evVal T sig caps orc d o env2 some = some (setD (some d) (puts env2 l (gone l)) v) /\ footTake TS env2 d o = some (W, Rd)) ->
   ∃ vs, vs.length = W.length /\ X = puts env W vs /\ ∀ env2, AllJ (Fr TS) env2 -> Agree (W ++ Rd) env env2 -> evVal T sig caps orc d o env2 some = some (puts env2 W vs) /\ footTake TS env2 d o = some (W, Rd) := by
  intro l R0 v C E hW Y he y;subst hW; subst Y;have hd' : d ∉ l := by simpa using E
  have m : ∀ (env' : Env), (get env' d).quiet = true -> setD (some d) (puts env' l (gone l)) v = puts env' (l ++ [d]) (gone l ++ [v]) := fun env' D => by
   rw [Y3 (by rw [Y10 hd']; exact D), Y26 _ _ _ _ _ (Y1f _)]; rfl
  refine ⟨gone l ++ [v], by simp [Y1f], by rw [he, m env C], fun env2 g p => ?_⟩;have i : (get env2 d).quiet = true := by rw [p.2 d sm]; exact C
  obtain ⟨k1, k2⟩ := y env2 g (p.mono (fun k y => by rcases X6.1 y with y | y <;> simp [y])) i;exact ⟨by rw [k1, m env2 i], k2⟩
 unfold footTake at b;split at b
 ·rename_i C;split at b
  ·rename_i t ps j;split at b
   ·rename_i l R0 q;split at b
    ·simp at b
    ·rename_i E;simp only [X0, Xw] at b;simp only [evVal, j] at h;split at h
     ·rename_i τ hτ;split at h
      ·rename_i hag;split at h
       ·rename_i env' ls hb;obtain ⟨r1, I⟩ := Y4j F q hb;simp only [X0] at h;refine fin C (by simpa using E) b.1.symm b.2.symm (by rw [<- h, r1]) (fun env2 g p i => ?_);obtain ⟨M, z⟩ := I env2 g p;refine ⟨by simp only [evVal, j, hτ, hag, X1p, M], ?_⟩;unfold footTake;rw [X4 i];simp only [j, z];rw [X2 E, b.1, b.2]
       ·simp at h
      ·simp at h
     ·simp at h
   ·simp at b
  ·rename_i t n ps j;split at b
   ·rename_i l R0 q;split at b
    ·simp at b
    ·rename_i E;simp only [X0, Xw] at b;simp only [evVal, j] at h;split at h
     ·rename_i te hte;split at h
      ·rename_i Z;split at h
       ·rename_i env' xs dp hb;obtain ⟨r1, I⟩ := Y4y F q hb;simp only [X0] at h;refine fin C (by simpa using E) b.1.symm b.2.symm (by rw [<- h, r1]) (fun env2 g p i => ?_);obtain ⟨M, z⟩ := I env2 g p;refine ⟨by simp only [evVal, j, hte, M]; rw [X4 Z], ?_⟩;unfold footTake;rw [X4 i];simp only [j, z];rw [X2 E, b.1, b.2]
       ·simp at h
      ·simp at h
     ·simp at h
   ·simp at b
  ·rename_i x j;split at b
   ·rename_i l R0 q;split at b
    ·simp at b
    ·rename_i E;simp only [X0, Xw] at b;simp only [evVal, j, Y27 q, Xm, X19] at h;obtain ⟨v, r1, I⟩ := Y2x (T.ty o.type) F q;rw [r1] at h;simp only [X0] at h;refine fin C (by simpa using E) b.1.symm b.2.symm h.symm (fun env2 g p i => ?_);obtain ⟨M, z⟩ := I env2 g p;refine ⟨by simp only [evVal, j, Y27 z, Xm, X19, M], ?_⟩;unfold footTake;rw [X4 i];simp only [j, z];rw [X2 E, b.1, b.2]
   ·simp at b
  ·simp at b
 ·rename_i C;split at b
  ·rename_i s j;split at b
   ·rename_i Z;simp only [X9, X1h, X1a, X1k] at Z;obtain ⟨B, G⟩ := Z;have hne : d ≠ s := fun e => by rw [e] at G; simp at G
    split at b
    ·rename_i s' q;split at b
     ·rename_i hss;have V : s = s' := by simpa using hss
      subst V;simp only [X0, Xw] at b;obtain ⟨rfl, rfl⟩ := b;simp only [evVal, j, Y27 q, Xm, X19] at h;obtain ⟨v, r1, I⟩ := Y2x (T.ty o.type) F q;have hv : v.chg (forgetG d) = v := Ycq (T.ty o.type) F q r1 d;rw [r1] at h;simp only [X0] at h;have m : ∀ (env' : Env), AllJ (Fr TS) env' -> (get env' d).quiet = (get env d).quiet -> setD (some d) (puts env' [s] (gone [s])) v = puts env' [s, d] [.undef, v] := by
       intro env' N D;have i : (get (puts env' [s] (gone [s])) d).quiet = false := by
        rw [Y10 (by simpa using hne), D]; simpa using C
       have hfr : ∀ r, (get (puts env' [s] (gone [s])) r).free TS = true := by
        intro r;show (get (put env' s .undef) r).free TS = true;rw [Y16];split
        ·rfl
        ·exact (N r).1
       unfold setD;simp only [i, Xm, X19];unfold forget;rw [Y49 B hfr, hv, Y4w];rfl
      refine ⟨[.undef, v], rfl, by rw [<- h]; exact m env F rfl, fun env2 g p => ?_⟩;obtain ⟨M, z⟩ := I env2 g (p.mono (fun k y => by simp at y; simp [y]));have A : get env2 d = get env d := p.2 d sm;refine ⟨by simp only [evVal, j, Y27 z, Xm, X19, M]; rw [m env2 g (by rw [A])], ?_⟩;unfold footTake;rw [X2 (by rw [A]; exact C)];simp only [j, z];rw [X4 (by rw [X9]; exact ⟨by simpa using B, by rw [G]; rfl⟩), X4 sm]
     ·simp at b
    ·rename_i R q;split at b
     ·rename_i O;simp only [X0, Xw] at b;obtain ⟨rfl, rfl⟩ := b;have htk := Y7y (ty := T.ty o.type) O;have hv : (get env s).chg (forgetG d) = get env s := Y8t B (F s).1;simp only [evVal, j, Y27 q, Xm, X19, htk, X0] at h;have m : ∀ (env' : Env), AllJ (Fr TS) env' -> (get env' d).quiet = (get env d).quiet -> setD (some d) env' (get env s) = puts env' [d] [get env s] := by
       intro env' N D;have i : (get env' d).quiet = false := by
        rw [D]; simpa using C
       unfold setD;simp only [i, Xm, X19];unfold forget;rw [Y49 B (fun r => (N r).1), hv, Y4w];rfl
      refine ⟨[get env s], rfl, by rw [<- h]; exact m env F rfl, fun env2 g p => ?_⟩;obtain ⟨_, _, I⟩ := Y2x (T.ty o.type) F q;obtain ⟨M, z⟩ := I env2 g (p.mono (fun k y => by simp at y; simp [y]));have A : get env2 d = get env d := p.2 d sm;have Y : R0of (takes TS env (.tmp s)) = opReads env (.tmp s) := by unfold takes; rw [X4 O]; rfl
      rw [q] at Y;have U : get env2 s = get env s := p.2 s (by
       have : s ∈ R := by
        show s ∈ R0of (some ([], R));rw [Y]; simp [opReads]
       simp [this])
      have L : inert env2 (.tmp s) = true := by simpa only [inert, U] using O
      refine ⟨by simp only [evVal, j, Y27 z, Xm, X19, Y7y (ty := T.ty o.type) L]; rw [U, m env2 g (by rw [A])], ?_⟩;unfold footTake;rw [X2 (by rw [A]; exact C)];simp only [j, z];rw [X4 (by rw [X9]; exact ⟨by simpa using B, by rw [G]; rfl⟩), X4 L]
     ·simp at b
    ·simp at b
   ·simp at b
  ·simp at b
theorem Ycr {b : BoxSig} {args : List Operand} {d r : Nat} {env V : Env} (hJ : AllJ (Fr TS) env) (F : (get env d).quiet = true) (X : nthL (rdArgs env sg.params args) b.k = some (.path r 0)) (B : r ∈ TS.bx) (C : d ≠ r) (E : (sg.params.all fun p => decide (p ≠ .self)) = true) (h : callB caps orc (some d) f sg b args [] env some = some V) :
  ∃ Y Z, V = puts env [r, d] [Y, Z] /\ ∀ env2, AllJ (Fr TS) env2 -> (∀ x ∈ args, Agree (opReads env x) env env2) -> get env2 r = get env r -> (get env2 d).quiet = true -> callB caps orc (some d) f sg b args [] env2 some = some (puts env2 [r, d] [Y, Z]) := by
 unfold callB at h;simp at h;rw [X] at h;split at h
 ·rename_i r' t i D;simp at i;subst i;split at h
  ·rename_i e ls hg;split at h
   ·rename_i hc;split at h
    ·simp at h
    ·rename_i rvs j;split at h
     ·simp at h
     ·rename_i q g;obtain ⟨xs, O, h⟩ := Xt.1 h;split at h
      ·simp at h
      ·rename_i y ys hy;split at h
       ·rename_i U;split at h
        ·simp at h
        ·rename_i v N;simp at h;have m : ∀ {env' : Env} {c : AV}, AllJ (Fr TS) env' -> (get env' d).quiet = true -> setD (some d) (put (chgEnv (renewG r) env') r c) v = puts env' [r, d] [c, v] := by
          intro env' c z g;rw [Y61 B (fun r => (z r).1), Y3]
          ·rfl
          ·rw [Y16, X2 (fun e => C e.1)]; exact g
         refine ⟨_, v, by rw [<- h]; exact m hJ F, fun env2 A W L G => ?_⟩;have M := Y2w (ps := sg.params) W;unfold callB;simp;rw [M, X];simp [D];rw [L, hg];simp only;rw [X4 hc];have l : RVsX caps env2 r sg.params (rdArgs env sg.params args) = some rvs := by
          rw [Ybm E] at j ⊢;rw [Y5x, j];intro v N q F;obtain ⟨x, hx, I⟩ := Y48 v N q F;exact (W x hx).2 q I
         rw [l];simp only [g, O, X3a, hy];rw [dif_pos U];simp [N];unfold renewBox;rw [m A G]
       ·simp at h
   ·simp at h
  ·simp at h
 ·simp at h
theorem Yam {env M : Env} {W Rd : List Nat} (V : AllJ (Fr TS) env) (i : footBox sig TS env d o = some (W, Rd)) (h : evVal T sig caps orc d o env some = some M) :
  ∃ vs, vs.length = W.length /\ M = puts env W vs /\ ∀ env2, AllJ (Fr TS) env2 -> Agree (W ++ Rd) env env2 -> evVal T sig caps orc d o env2 some = some (puts env2 W vs) /\ footVal sig env2 d o = none /\ footBox sig TS env2 d o = some (W, Rd) := by
 unfold footBox at i;split at i
 ·rename_i c G;split at i
  ·rename_i f C;split at i
   ·rename_i sg l;split at i
    ·rename_i b A;split at i
     ·rename_i r O;split at i
      ·rename_i g;simp at i;obtain ⟨rfl, rfl⟩ := i;have j := g;simp only [X9, X1k, X1h, X1a] at g;obtain ⟨⟨Y, B⟩, N, F⟩ := g;have E : d ≠ r := fun e => by simp_all
       have m : ∀ env', evVal T sig caps orc d o env' some = callB caps orc (some d) f sg b c.args.toList [] env' some := by
        intro env';simp only [evVal, G, C];unfold call1;simp only [l, A]
       rw [m] at h;obtain ⟨Z, v2, e, k⟩ := Ycr V Y O B E F h;refine ⟨[Z, v2], rfl, e, fun env2 q y => ?_⟩;have z : Agree (allReads env c.args.toList) env env2 := y.mono (fun k X => Xf _ X);obtain ⟨L, U⟩ := Yp z;have I : get env2 r = get env r := y.2 r sm;have D : get env2 d = get env d := y.2 d sm;have p : (get env2 d).quiet = true :=gr;refine ⟨by rw [m]; exact k env2 q L I p, ?_, ?_⟩
       ·unfold footVal;rw [X4 p];simp only [G, pureReads, C];rw [X2];simp [freshSig, l, A]
       ·unfold footBox;simp only [G, C, l, A];rw [Y2w (ps := sg.params) L, O];simp only;rw [D, X4 j, U]
      ·simp at i
     ·simp at i
    ·simp at i
   ·simp at i
  ·simp at i
 ·simp at i
theorem Yba {c : Call} (g : o.op = .call c) (b : c.callee = .builtin .append) : footBox sig TS env d o = none := by
 unfold footBox;simp [g, b]
theorem Yan {f : Foot} {W Rd : List Nat} (h : footApp T TS env d o = some (W, Rd)) : ∃ c, o.op = .call c /\ c.callee = .builtin .append := by
 unfold footApp at h;split at h
 ·grind
 ·simp at h
theorem Yao {f : Foot} (h : footBox sig TS env d o = f) (b : f ≠ none) : ∃ c, o.op = .call c := by
 unfold footBox at h;split at h
 ·grind
 ·grind
theorem Y62 {c : Call} (b : o.op = .call c) : footPtr TS env d o = none := by
 unfold footPtr;simp [b]
theorem Y98 {env env2 : Env} (b : footPtr TS env d o = none) (g : (get env2 d).quiet = (get env d).quiet) : footPtr TS env2 d o = none := by
 unfold footPtr at b ⊢;split
 ·grind
 ·rfl
theorem Yap {env p : Env} {W Rd : List Nat} (B : AllJ (Fr TS) env) (b : footPtr TS env d o = some (W, Rd)) (h : evVal T sig caps orc d o env some = some p) :
  ∃ vs, vs.length = W.length /\ p = puts env W vs /\ ∀ env2, AllJ (Fr TS) env2 -> Agree (W ++ Rd) env env2 -> evVal T sig caps orc d o env2 some = some (puts env2 W vs) /\ footPtr TS env2 d o = some (W, Rd) := by
 unfold footPtr at b;split at b
 ·rename_i s m;split at b
  ·rename_i q;simp at b;obtain ⟨rfl, rfl⟩ := b;simp at q;obtain ⟨z, A⟩ := q;have i : ∀ env', AllJ (Fr TS) env' -> ∀ ty, rd ty env' (.tmp s) = .path s 0 := fun env' j ty => by
    have := (j s).2 A;simp [rd];cases y : get env' s with
    | con k ls =>
     rw [y] at this;cases k <;> simp [AV.isBox] at this ⊢
    | _ => rw [y] at this; simp [AV.isBox] at this
   simp only [evVal, m, i env B, X0] at h;rw [Y3 z] at h;refine ⟨[.path s 0], rfl, h.symm, fun env2 l C => ?_⟩;have g : (get env2 d).quiet = true := by rw [C.2 d sm]; exact z
   exact ⟨by simp only [evVal, m, i env2 l]; rw [Y3 g]; rfl, by unfold footPtr; simp only [m]; rw [X4 (by simp [g, A])]⟩
  ·simp at b
 ·simp at b
theorem Y63 {env G : Env} {W Rd : List Nat} (A : AllJ (Fr TS) env) (j : footRun T sig TS o env = some (W, Rd)) (h : evOp T sig caps orc o env some = some G) :
  ∃ vs, vs.length = W.length /\ G = puts env W vs /\ ∀ env2, AllJ (Fr TS) env2 -> Agree (W ++ Rd) env env2 -> evOp T sig caps orc o env2 some = some (puts env2 W vs) /\ footRun T sig TS o env2 = some (W, Rd) := by
 unfold footRun at j;unfold evOp at h;split at j
 ·rename_i d i;rw [i] at h;simp only at h;split at h
  ·rename_i m;split at j
   ·rename_i l;obtain ⟨vs, q, e, k⟩ := Y97 A j h;refine ⟨vs, q, e, fun env2 b g => ?_⟩;obtain ⟨p, k2⟩ := k env2 b g;exact ⟨by unfold evOp; rw [i]; simp only; rw [X4 (by rw [g.1]; exact m)]; exact p, by unfold footRun; rw [i]; simp only; rw [X4 l]; exact k2⟩
   rename_i l;split at j
   ·rename_i N z;simp only [X0] at j;subst j;obtain ⟨vs, q, e, k⟩ := Yap A z h;refine ⟨vs, q, e, fun env2 b g => ?_⟩;obtain ⟨p, k2⟩ := k env2 b g;exact ⟨by unfold evOp; rw [i]; simp only; rw [X4 (by rw [g.1]; exact m)]; exact p, by unfold footRun; rw [i]; simp only; rw [X2 l, k2]⟩
   rename_i B
   -- whether it is such a move does not depend on the environment
   have z : ∀ env2, AllJ (Fr TS) env2 -> (get env2 d).quiet = (get env d).quiet -> footPtr TS env2 d o = none := fun env2 _ I => Y98 B I;split at j
   ·rename_i t R C;simp only [X0, Xw] at j;obtain ⟨rfl, rfl⟩ := j;obtain ⟨rfl, v, e, k⟩ := Yai C h;refine ⟨[v], rfl, e, fun env2 b g => ?_⟩;obtain ⟨p, k2⟩ := k env2 g;exact ⟨by unfold evOp; rw [i]; simp only; rw [X4 (by rw [g.1]; exact m)]; exact p, by unfold footRun; rw [i]; simp only; rw [X2 l, z env2 b (by rw [g.2 _ sm])]; simp only; rw [k2]⟩
   ·rename_i C;split at j
    ·rename_i M y;simp only [X0] at j;subst j;obtain ⟨vs, q, e, k⟩ := Yam A y h;refine ⟨vs, q, e, fun env2 b g => ?_⟩;obtain ⟨p, k2, F⟩ := k env2 b g;exact ⟨by unfold evOp; rw [i]; simp only; rw [X4 (by rw [g.1]; exact m)]; exact p, by unfold footRun; rw [i]; simp only; rw [X2 l, Y62 (Yao y sm).choose_spec]; simp only; rw [k2]; simp only; rw [F]⟩
    rename_i y;obtain ⟨L, D, E⟩ := Yan (f := none) j;obtain ⟨vs, q, e, k⟩ := Yal A j h;refine ⟨vs, q, e, fun env2 b g => ?_⟩;obtain ⟨p, k2, F⟩ := k env2 b g;exact ⟨by unfold evOp; rw [i]; simp only; rw [X4 (by rw [g.1]; exact m)]; exact p, by unfold footRun; rw [i]; simp only; rw [X2 l, Y62 D]; simp only; rw [k2]; simp only; rw [Yba D E]; exact F⟩
  ·simp at h
 ·rename_i i;obtain ⟨vs, q, e, k⟩ := Y8e (sig := sig) (caps := caps) (orc := orc) i A j (by unfold evOp; rw [i]; rw [i] at h; exact h);refine ⟨vs, q, e, fun env2 b g => ?_⟩;obtain ⟨p, k2⟩ := k env2 b g;exact ⟨p, by unfold footRun; rw [i]; exact k2⟩
theorem Y5f {env l : Env} {W Rd : List Nat} (b : footSkip o env = some (W, Rd)) (h : skipOp o env some = some l) :
  ∃ vs, vs.length = W.length /\ l = puts env W vs /\ ∀ env2, Agree (W ++ Rd) env env2 -> skipOp o env2 some = some (puts env2 W vs) /\ footSkip o env2 = some (W, Rd) := by
 unfold footSkip at b;unfold skipOp at h;split at b
 ·rename_i d i;rw [i] at h;simp only at h;split at b
  ·rename_i p;simp at b;obtain ⟨rfl, rfl⟩ := b;split at h
   ·rename_i j;simp at h;rw [Y3 p] at h;refine ⟨[.skip], rfl, h.symm, fun env2 m => ?_⟩;have g : (get env2 d).quiet = true := by rw [m.2 d sm]; exact p
    exact ⟨by unfold skipOp; rw [i]; simp only; rw [X4 (by rw [m.1]; exact j), Y3 g]; rfl, by unfold footSkip; rw [i]; simp only; rw [X4 g]⟩
   ·simp at h
  ·simp at b
 ·simp at b
theorem Y5a {xs : List Nat} {f : Foot} {W Rd : List Nat} (h : Foot.reads xs f = some (W, Rd)) : ∃ R, f = some (W, R) /\ Rd = xs ++ R := by
 cases f with
 | none => simp [Foot.reads] at h
 | some p =>
  obtain ⟨b, R⟩ := p;simp [Foot.reads] at h;exact ⟨R, by rw [h.1], h.2.symm⟩
theorem Ycs {ops : Array Oper} {env O : Env} {W Rd : List Nat} (X : AllJ (Fr TS) env) (l : footG T sig TS ops o env = some (W, Rd)) (h : evOps T sig caps orc ops [o] env some = some O) :
  ∃ vs, vs.length = W.length /\ O = puts env W vs /\ ∀ env2, AllJ (Fr TS) env2 -> Agree (W ++ Rd) env env2 -> evOps T sig caps orc ops [o] env2 some = some (puts env2 W vs) /\ footG T sig TS ops o env2 = some (W, Rd) := by
 simp [evOps] at h;unfold footG at l;cases B : o.guard with
 | none =>
  rw [B] at h l;simp only at h l;obtain ⟨vs, F, e, k⟩ := Y63 X l h;refine ⟨vs, F, e, fun env2 q A => ?_⟩;obtain ⟨N, k2⟩ := k env2 q A;exact ⟨by simp [evOps, B]; exact N, by unfold footG; rw [B]; exact k2⟩
 | some g =>
  obtain ⟨j, m⟩ := g;rw [B] at h l;simp only at h l;cases D : (ops[j]?).bind (·.dst) with
  | none => rw [D] at h; simp at h
  | some E =>
   rw [D] at h l;simp only at h l;have i : ∀ {R : List Nat} {env2 : Env}, Rd = [E] ++ R -> Agree (W ++ Rd) env env2 -> get env2 E = get env E /\ Agree (W ++ R) env env2 := by
    intro R env2 z A;subst z;exact ⟨A.2 E sm, A.mono (fun k Z => gr)⟩
   split at h
   ·rename_i I;rw [I] at l;simp only at l;obtain ⟨R, y, z⟩ := Y5a l;obtain ⟨vs, F, e, k⟩ := Y5f y h;refine ⟨vs, F, e, fun env2 q A => ?_⟩;obtain ⟨p, M⟩ := i z A;rw [I] at p;obtain ⟨N, k2⟩ := k env2 M;exact ⟨by simp [evOps, B, D, p]; exact N, by unfold footG; rw [B]; simp only [D, p, k2, Foot.reads, z]⟩
   ·rename_i b I;rw [I] at l;simp only at l;have Y : put env E (vBool b) = env := Y2n I;have fin : ∀ (C : Bool), C = b -> (if C = m then evOp T sig caps orc o env some else skipOp o env some) = some O -> ∃ vs, vs.length = W.length /\ O = puts env W vs /\ ∀ env2, AllJ (Fr TS) env2 -> Agree (W ++ Rd) env env2 -> evOps T sig caps orc ops [o] env2 some = some (puts env2 W vs) /\ footG T sig TS ops o env2 = some (W, Rd) := by
     intro C V U;subst V;by_cases L : C = m
     ·rw [X4 L] at U l;obtain ⟨R, y, z⟩ := Y5a l;obtain ⟨vs, F, e, k⟩ := Y63 X y U;refine ⟨vs, F, e, fun env2 q A => ?_⟩;obtain ⟨p, M⟩ := i z A;rw [I] at p;obtain ⟨N, k2⟩ := k env2 q M;have G : put env2 E (vBool C) = env2 := Y2n p;refine ⟨?_, by unfold footG; rw [B]; simp only [D, p, k2, Foot.reads, z]; rw [X4 L]⟩;simp [evOps, B, D, p];subst L;cases C with
      | true => grind
      | false => grind
     ·rw [X2 L] at U l;obtain ⟨R, y, z⟩ := Y5a l;obtain ⟨vs, F, e, k⟩ := Y5f y U;refine ⟨vs, F, e, fun env2 q A => ?_⟩;obtain ⟨p, M⟩ := i z A;rw [I] at p;obtain ⟨N, k2⟩ := k env2 M;have G : put env2 E (vBool C) = env2 := Y2n p;refine ⟨?_, by unfold footG; rw [B]; simp only [D, p, k2, Foot.reads, z]; rw [X2 L]⟩;simp [evOps, B, D, p];cases C with
      | true => cases m with
       | true => exact absurd rfl L
       | false => grind
      | false => cases m with
       | true => grind
       | false => exact absurd rfl L
    refine fin b rfl ?_;cases b with
    | true => grind
    | false => grind
   ·simp at h
def stepI (T : Tab) (sig : FuncId -> Option Sig) (caps : FuncId -> List Ty) (orc : Orc) (ops : Array Oper) (i : Nat) (env : Env) : Option Env := match ops[i]? with
 | some o => evOps T sig caps orc ops [o] env some
 | none => none
def footI (T : Tab) (sig : FuncId -> Option Sig) (TS : DS) (ops : Array Oper) (i : Nat) (env : Env) : Foot := match ops[i]? with
 | some o => footG T sig TS ops o env
 | none => none
theorem Yf9 (ops : Array Oper) : Mild (Fr TS) (stepI T sig caps orc ops) (footI T sig TS ops) := by
 intro i env W Rd env' m g j;unfold stepI at j;unfold footI at g;cases h : ops[i]? with
 | none => grind
 | some o =>
  rw [h] at j g;obtain ⟨vs, l, e, k⟩ := Ycs m g j;refine ⟨vs, l, e, fun env2 b q p => ?_⟩;obtain ⟨y, k2⟩ := k env2 b ⟨q, p⟩;exact ⟨by unfold stepI; rw [h]; exact y, by unfold footI; rw [h]; exact k2⟩
theorem Yaq {ops : Array Oper} {j : Nat -> Foot} {E : Env} {K : Env -> Option R} {r : R} (b : K E = some r) : ∀ {l : List Nat} {env : Env}, Trace (Fr TS) (stepI T sig caps orc ops) (footI T sig TS ops) l env E j -> evOps T sig caps orc ops (l.filterMap (ops[·]?)) env K = some r
 | [], env, h => by
  obtain ⟨_, h⟩ := h;subst h;exact b
 | i :: l, env, ⟨_, _, e1, h1, h2⟩ => by
  unfold stepI at h1;cases g : ops[i]? with
  | none => grind
  | some o =>
   rw [g] at h1;simp only at h1;rw [X1x (by exact g), Ycm, h1];exact Yaq b h2
end
def ancMask (ms : List Nat) : List Edge -> Nat
 | [] => 0
 | e :: r => if Region.binds .any e then (2 ^ e.on ||| ms.getD e.on 0) ||| ancMask ms r else ancMask ms r
def notIn (t : Nat) : List Nat -> Bool
 | [] => true
 | x :: r => !(Nat.beq x t) && notIn t r
def disB : Foot -> Foot -> Bool
 | some (W, R), some (W', R') => (W.all fun w => notIn w W' && notIn w R') && W'.all fun w => notIn w R
 | _, _ => false
def okE (TS : DS) (env : Env) : Bool := (TS.ts.isEmpty && TS.bx.isEmpty) || (env.all (AV.free TS) && TS.bx.all fun r => (get env r).isBox)
def usesOf : Op -> List Operand
 | .move x | .assign x | .box _ x | .nilCheck x | .load _ x | .fieldAddr _ x _ | .field _ x _ | .unOp _ _ x | .convert _ _ x | .extract x _ => [x]
 | .pick c a b => [c, a, b]
 | .build _ ps => ps.toList.map (·.2)
 | .buildSlice _ _ ps => ps.toList.map (·.2)
 | .indexAddr _ x i | .index _ x i | .makeSlice _ x i | .store _ x i => [x, i]
 | .binOp _ _ x y _ => [x, y]
 | .slice _ x h g _ => x :: (h.toList ++ g.toList)
 | .call c => c.args.toList
 | _ => []
def makesRow : Op -> Bool
 | .buildSlice _ _ _ => true
 | .build _ _ => true
 | .makeSlice _ _ _ => true
 | .call c => match c.callee with
  | .builtin .append => true
  | .value _ => true
  | _ => false
 | _ => false
def takenBy : Op -> List Operand
 | .build _ ps => ps.toList.map (·.2)
 | .buildSlice _ _ ps => ps.toList.map (·.2)
 | .call c => match c.callee with
  | .builtin .append => c.args.toList.take 1
  | _ => []
 | _ => []
def tsOf (ops : List Oper) : List Nat := ops.flatMap fun o => (takenBy o.op).filterMap fun x => match x with
 | .tmp s => if (ops.any fun o => o.dst == some s && makesRow o.op) && Nat.beq ((ops.map fun o => ((usesOf o.op).filter (isTmp s)).length).sum) 1 then some s else none
 | _ => none
def okAll (b : Nat) : Nat -> List Foot -> Foot -> Bool
 | _, [], _ => true
 | i, f :: fs, g => (b.testBit i || disB f g) && okAll b (i + 1) fs g
def opsOf : Op -> Option (List Operand)
 | .move x | .assign x | .box _ x | .load _ x | .nilCheck x | .unOp _ _ x | .convert _ _ x | .fieldAddr _ x _ | .field _ x _ | .extract x _ => some [x]
 | .alloc _ => some []
 | .pick c a b => some [c, a, b]
 | .build _ ps => some (ps.toList.map (·.2))
 | .buildSlice _ _ ps => some (ps.toList.map (·.2))
 | .store _ a v | .binOp _ _ a v _ | .makeSlice _ a v | .indexAddr _ a v | .index _ a v => some [a, v]
 | .slice _ x l h m => some (x :: (l.toList ++ (h.toList ++ m.toList)))
 | .call c => match c.callee with
  | .value f => some (f :: c.args.toList)
  | .builtin _ => some c.args.toList
  | _ => none
 | _ => none
def swapOk (ops : Array Oper) (d : Nat) (x : Operand) (k : Oper) : Bool :=
 (match opsOf k.op with
  | some xs => xs.all fun y => !isTmp d y
  | none => false) && ((match k.dst with
   | some b => !(Nat.beq d b) && !isTmp b x
   | none => true) && (match k.guard with
    | some (j, _) => (match (ops[j]?).bind (·.dst) with
     | some g => !(Nat.beq d g)
     | none => true)
    | none => true))
def bareOp : Op -> Option Operand
 | .move x => some x
 | .extract x _ => some x
 | _ => none
def floatTo (ops : Array Oper) (i : Nat) (d : Nat) (x : Operand) : Nat -> Bool
 | 0 => true
 | n + 1 => (decide (n <= i) || (match ops[n]? with
  | some k => swapOk ops d x k || k.after.toList.any fun e => Region.binds .any e && Nat.beq e.on i
  | none => true)) && floatTo ops i d x n
def floatOk (ops : Array Oper) (i : Nat) : Bool := match ops[i]? with
 | some z => (match bareOp z.op, z.dst with
  | some x, some d => z.guard.isNone && (!isTmp d x && floatTo ops i d x ops.size)
  | _, _ => false)
 | none => false
def okFloat (ops : Array Oper) (b : Nat) : Nat -> Bool
 | 0 => true
 | n + 1 => (b.testBit n || floatOk ops n) && okFloat ops b n
def okStep (ops : Array Oper) (b : Nat) (fs : List Foot) (f : Foot) : Bool := okAll b 0 fs f || okFloat ops b fs.length
section
variable {R : Type} (T : Tab) (sig : FuncId -> Option Sig) (caps : FuncId -> List Ty) (orc : Orc)
def evDraw (TS : DS) (ops : Array Oper) : List Oper -> List Nat -> List Foot -> Env -> (Env -> Option R) -> Option R
 | [], _, _, env, K => K env
 | o :: rest, ms, fs, env, K =>
  let g := ancMask ms o.after.toList
  if o.after.toList.all (fun e => !Region.binds .any e || decide (e.on < ms.length)) then
   match o.guard with
   | none => if okStep ops g fs (footRun T sig TS o env) then evOp T sig caps orc o env fun env' => if okE TS env' then evDraw TS ops rest (ms ++ [g]) (fs ++ [footRun T sig TS o env]) env' K else none else none
   | some (j, want) => match (ops[j]?).bind (·.dst) with
    | none => none
    | some h => match get env h with
     | .skip => if okStep ops g fs (Foot.reads [h] (footSkip o env)) then skipOp o env fun env' => if okE TS env' then evDraw TS ops rest (ms ++ [g]) (fs ++ [Foot.reads [h] (footSkip o env)]) env' K else none else none
     | .con .val [⟨.bool, b, .at_ .ro⟩] => bif b
       then (if want then (if okStep ops g fs (Foot.reads [h] (footRun T sig TS o (put env h (vBool true)))) then evOp T sig caps orc o (put env h (vBool true)) fun env' => if okE TS env' then evDraw TS ops rest (ms ++ [g]) (fs ++ [Foot.reads [h] (footRun T sig TS o (put env h (vBool true)))]) env' K else none else none)
        else (if okStep ops g fs (Foot.reads [h] (footSkip o (put env h (vBool true)))) then skipOp o (put env h (vBool true)) fun env' => if okE TS env' then evDraw TS ops rest (ms ++ [g]) (fs ++ [Foot.reads [h] (footSkip o (put env h (vBool true)))]) env' K else none else none))
       else (if want then (if okStep ops g fs (Foot.reads [h] (footSkip o (put env h (vBool false)))) then skipOp o (put env h (vBool false)) fun env' => if okE TS env' then evDraw TS ops rest (ms ++ [g]) (fs ++ [Foot.reads [h] (footSkip o (put env h (vBool false)))]) env' K else none else none)
        else (if okStep ops g fs (Foot.reads [h] (footRun T sig TS o (put env h (vBool false)))) then evOp T sig caps orc o (put env h (vBool false)) fun env' => if okE TS env' then evDraw TS ops rest (ms ++ [g]) (fs ++ [Foot.reads [h] (footRun T sig TS o (put env h (vBool false)))]) env' K else none else none))
     | _ => none
  else none
def boxCalls (ops : List Oper) : Bool := ops.any fun o => match o.op with
 | .call c => match c.callee with
  | .value (.func f) => match sig f with
   | some sg => sg.box.isSome
   | none => false
  | _ => false
 | _ => false
def boxesOf : Nat -> Env -> List Nat
 | _, [] => []
 | n, v :: r => match v with
  | .con (.box _) ls => if ls.all fun l => !l.m.own then n :: boxesOf (n + 1) r else boxesOf (n + 1) r
  | _ => boxesOf (n + 1) r
def ownCall (sig : FuncId -> Option Sig) : Op -> Bool
 | .call c => match c.callee with
  | .value (.func f) => match sig f with
   | some sg => sg.newb.isNone && (match sg.results with
    | [(.slice _ _, .dp)] => true
    | _ => false)
   | none => false
  | _ => false
 | _ => false
def tsAsg (sig : FuncId -> Option Sig) (ops : List Oper) : List Nat := ops.filterMap fun o => match o.op with
 | .assign (.tmp s) => if (ops.any fun o => o.dst == some s && ownCall sig o.op) && Nat.beq ((ops.map fun o => ((usesOf o.op).filter (isTmp s)).length).sum) 1 then some s else none
 | _ => none
def movedT (ops : List Oper) (s : Nat) : Bool := match defOf ops s with
 | some (.move (.tmp _)) => true
 | _ => false
def tdAsg (ts : List Nat) (ops : List Oper) : List Nat := ops.filterMap fun o => match o.op with
 | .assign (.tmp s) => match o.dst with
  | some d => if (ts.contains s || movedT ops s) && ops.all (fun o => (usesOf o.op).all fun y => !isTmp d y) then some d else none
  | none => none
 | _ => none
def storedIn (env : Env) (ops : List Oper) : List Nat := ops.filterMap fun o => match o.op with
 | .store _ (.tmp s) _ => if (get env s).isBox && Nat.beq ((ops.map fun o => ((usesOf o.op).filter (isTmp s)).length).sum) 1 then some s else none
 | _ => none
def firstOk (env : Env) : List DS -> DS
 | [] => {}
 | D :: r => if okE D env then D else firstOk env r
def drawTS (ops : Array Oper) (env : Env) : DS :=
 let ts := tsOf ops.toList ++ tsAsg sig ops.toList
 let b := ts ++ tdAsg ts ops.toList
 let bx := if boxCalls sig ops.toList then boxesOf 0 env else []
 firstOk env [⟨b, storedIn env ops.toList ++ bx⟩, ⟨ts, storedIn env ops.toList ++ bx⟩, ⟨ts, bx⟩, ⟨ts, []⟩]
def drawReg (ops : Array Oper) (env : Env) (K : Env -> Option R) : Option R := evDraw T sig caps orc (drawTS sig ops env) ops ops.toList [] [] env K
end
section
variable {R : Type} {T : Tab} {sig : FuncId -> Option Sig} {caps : FuncId -> List Ty} {orc : Orc}
theorem Ybb {ops : Array Oper} {rest : List Oper} {TS : DS} {i : List Nat} {fs : List Foot} {K : Env -> Option R} {r : R} (h : evDraw T sig caps orc TS ops (o :: rest) i fs env K = some r) :
  (∀ e ∈ o.after.toList, Region.binds .any e = true -> e.on < i.length) /\ okStep ops (ancMask i o.after.toList) fs (footG T sig TS ops o env) = true /\ ∃ l, evOps T sig caps orc ops [o] env some = some l /\ okE TS l = true /\ evDraw T sig caps orc TS ops rest (i ++ [ancMask i o.after.toList]) (fs ++ [footG T sig TS ops o env]) l K = some r := by
 simp only [evDraw] at h;split at h
 ·rename_i E;refine ⟨fun e F p => by have := Xa.1 E e F; rw [p] at this; simpa using this, ?_⟩;have run : ∀ {f : Foot} {X : Env}, (if okStep ops (ancMask i o.after.toList) fs f = true then evOp T sig caps orc o X fun env' => if okE TS env' then evDraw T sig caps orc TS ops rest (i ++ [ancMask i o.after.toList]) (fs ++ [f]) env' K else none else none) = some r ->
    okStep ops (ancMask i o.after.toList) fs f = true /\ ∃ l, evOp T sig caps orc o X some = some l /\ okE TS l = true /\ evDraw T sig caps orc TS ops rest (i ++ [ancMask i o.after.toList]) (fs ++ [f]) l K = some r := by
   intro f X h;split at h
   ·rename_i q;rw [Y4h] at h;obtain ⟨l, D, m⟩ := Xt.1 h;split at m
    ·grind
    ·simp at m
   ·simp at h
  have I : ∀ {f : Foot} {X : Env}, (if okStep ops (ancMask i o.after.toList) fs f = true then skipOp o X fun env' => if okE TS env' then evDraw T sig caps orc TS ops rest (i ++ [ancMask i o.after.toList]) (fs ++ [f]) env' K else none else none) = some r ->
    okStep ops (ancMask i o.after.toList) fs f = true /\ ∃ l, skipOp o X some = some l /\ okE TS l = true /\ evDraw T sig caps orc TS ops rest (i ++ [ancMask i o.after.toList]) (fs ++ [f]) l K = some r := by
   intro f X h;split at h
   ·rename_i q;rw [Y3f] at h;obtain ⟨l, D, m⟩ := Xt.1 h;split at m
    ·simp_all
    ·simp at m
   ·simp at h
  unfold footG;simp only [evOps];cases G : o.guard with
  | none => grind
  | some g =>
   obtain ⟨j, B⟩ := g;rw [G] at h;simp only at h ⊢;cases y : (ops[j]?).bind (·.dst) with
   | none => rw [y] at h; simp at h
   | some C =>
    rw [y] at h;simp only at h ⊢;split at h
    ·grind
    ·rename_i b A;have z : put env C (vBool b) = env := Y2n A;simp [A];cases b with
     | true => grind
     | false => grind
    ·simp at h
 ·simp at h
end
inductive Anc (ops : Array Oper) : Nat -> Nat -> Prop
 | edge {j : Nat} {o : Oper} {e : Edge} (h1 : ops[j]? = some o) (h2 : e ∈ o.after) (h3 : Region.binds .any e = true) : Anc ops j e.on
 | trans {j i : Nat} {o : Oper} {e : Edge} (h1 : ops[j]? = some o) (h2 : e ∈ o.after) (h3 : Region.binds .any e = true) (h4 : Anc ops e.on i) : Anc ops j i
theorem Y4v {j : List Nat} {i : Nat} : ∀ {l : List Edge}, (ancMask j l).testBit i = true -> ∃ e ∈ l, Region.binds .any e = true /\ (e.on = i \/ (j.getD e.on 0).testBit i = true)
 | [], h => by simp [ancMask] at h
 | e :: l, h => by
  unfold ancMask at h;split at h
  ·rename_i m;rw [Nat.testBit_or, Nat.testBit_or, Nat.testBit_two_pow] at h;simp at h;rcases h with (h | h) | h
   ·grind
   ·grind
   ·obtain ⟨e', b, g⟩ := Y4v h;exact ⟨e', by simp [b], g⟩
  ·obtain ⟨e', b, g⟩ := Y4v h;exact ⟨e', by simp [b], g⟩
theorem Y3z {t : Nat} : ∀ {l : List Nat}, notIn t l = true -> t ∉ l
 | [], _ => sm
 | x :: l, h => by
  simp [notIn] at h;have b : x ≠ t := fun e => by simp_all
  simp;exact ⟨fun e => b e.symm, Y3z h.2⟩
theorem Ydh {f g : Foot} (h : disB f g = true) : Dis f g := by
 cases f with
 | none => simp [disB] at h
 | some p => cases g with
  | none => simp [disB] at h
  | some q =>
   obtain ⟨W, R⟩ := p;obtain ⟨j, i⟩ := q;simp [disB] at h;exact ⟨fun w b => ⟨Y3z (h.1 w b).1, Y3z (h.1 w b).2⟩, fun w b => Y3z (h.2 w b)⟩
theorem Y7z {b : Nat} {g : Foot} : ∀ {fs : List Foot} {i : Nat}, okAll b i fs g = true -> ∀ k f, fs[k]? = some f -> b.testBit (i + k) = true \/ Dis f g
 | [], i, _, k, f, hk => by simp at hk
 | f0 :: fs, i, h, k, f, hk => by
  simp [okAll] at h;cases k with
  | zero =>
   simp only [Xg, X0] at hk;subst hk;exact h.1.imp (fun h => h) Ydh
  | succ k =>
   have := Y7z h.2 k f (by simpa using hk)
   rwa [show i + 1 + k = i + (k + 1) by omega] at this
section
variable {R : Type} {T : Tab} {sig : FuncId -> Option Sig} {caps : FuncId -> List Ty} {orc : Orc}
theorem Yar {TS : DS} (b : TS.ts = []) (g : TS.bx = []) (v : AV) : v.free TS = true := by simp [AV.free, b, g]
theorem Ybn {TS : DS} (h : okE TS env = true) : AllJ (Fr TS) env := by
 unfold okE at h;rw [X2r] at h;intro r;rcases h with h | h
 ·rw [X9] at h;exact ⟨Yar (List.isEmpty_iff.1 h.1) (List.isEmpty_iff.1 h.2) _, fun i => gr⟩
 ·have g : ∀ {l : Env}, l.all (AV.free TS) = true -> ∀ r, (get l r).free TS = true := by
   intro l
   induction l with
   | nil => intro _ r; simp [get, AV.free, AV.refs, AV.ptrs]
   | cons v l j =>
    intro b r;simp only [List.all_cons, X9] at b;cases r with
    | zero => exact b.1
    | succ r => exact j b.2 r
  rw [X9] at h;exact ⟨g h.1 r, fun i => Xa.1 h.2 r i⟩
theorem Y64 {ops : Array Oper} {b : Nat} : ∀ {n : Nat}, okFloat ops b n = true -> ∀ i, i < n -> b.testBit i = true \/ floatOk ops i = true
 | 0, _, i, hi => om
 | n + 1, h, i, hi => by
  simp [okFloat] at h;by_cases e : i = n
  ·grind
  ·exact Y64 h.2 i om
theorem Y65 {TS : DS} {ops : Array Oper} {K : Env -> Option R} {r : R} : ∀ {rest : List Oper} {ms : List Nat} {fs : List Foot} {env : Env} {k : Nat}, evDraw T sig caps orc TS ops rest ms fs env K = some r -> AllJ (Fr TS) env -> ms.length = k -> fs.length = k -> (∀ m, rest[m]? = ops[k + m]?) ->
  (∀ j, j < k -> ∀ i, (ms.getD j 0).testBit i = true -> Anc ops j i) ->
  ∃ (E : Env) (p : List Foot), p.length = rest.length /\ Trace (Fr TS) (stepI T sig caps orc ops) (footI T sig TS ops) (List.range' k rest.length) env E (fun i => (fs ++ p).getD i none) /\ K E = some r /\
   (∀ j, k <= j -> j < k + rest.length -> (∀ o, ops[j]? = some o -> ∀ e ∈ o.after, Region.binds .any e = true -> e.on < j) /\ ((∀ i, i < j -> Anc ops j i \/ Dis ((fs ++ p).getD i none) ((fs ++ p).getD j none)) \/ ∀ i, i < j -> Anc ops j i \/ floatOk ops i = true))
 | [], ms, fs, env, k, h, hJ, h1, h2, h3, h4 => by
  exact ⟨env, [], rfl, ⟨hJ, rfl⟩, h, fun j O B => gr⟩
 | o :: rest, ms, fs, env, k, h, hJ, h1, h2, h3, h4 => by
  obtain ⟨q, b, V, hs, W, Z⟩ := Ybb h;have l : ops[k]? = some o := by have := h3 0; simpa using this.symm
  have N : ∀ i, (ancMask ms o.after.toList).testBit i = true -> Anc ops k i := by
   intro i D;obtain ⟨e, I, F, G⟩ := Y4v D;have z : e ∈ o.after := by simpa using I
   rcases G with rfl | G
   ·exact .edge l z F
   ·exact .trans l z F (h4 e.on (by have := q e I F; omega) i G)
  let g := footG T sig TS ops o env
  obtain ⟨E, p, k1, k2, k3, U⟩ := Y65 (k := k + 1) Z (Ybn W) (by simp [h1]) (by simp [h2]) (fun m => by have := h3 (m + 1); rw [X1l] at this; rw [this]; congr 1; omega) (fun j O i D => gr);have y : fs ++ [g] ++ p = fs ++ (g :: p) :=sm;rw [y] at k2 U;have A : (fs ++ (g :: p)).getD k none = g := by simp_all
  refine ⟨E, g :: p, by simp [k1], ?_, k3, fun j O B => ?_⟩
  ·rw [X1t, List.range'_succ];refine ⟨hJ, ?_, V, ?_, k2⟩
   ·show footI T sig TS ops k env = _;unfold footI;rw [l];exact A.symm
   ·unfold stepI;rw [l];exact hs
  ·by_cases M : j = k
   ·subst M;refine ⟨fun o' Y e I X => ?_, ?_⟩
    ·grind
    ·unfold okStep at b;rw [X2r] at b;rcases b with b | b
     case inr =>
      right;intro i D;rcases Y64 b i om with C | C
      ·grind
      ·exact .inr C
     left;intro i D;rw [A];have L : fs[i]? = some (fs[i]' om) := X1 om;have := Y7z b i _ L;rw [X14] at this;rcases this with C | C
     ·simp_all
     ·grind
   ·exact U j om (by simp at B; omega)
theorem Yct {o : Op} {xs : List Operand} (h : opsOf o = some xs) : (∀ cs b, o ≠ .select cs b) /\ ∀ x ∈ o.operands, x ∈ xs := by
 cases o <;> simp [opsOf] at h <;> try cases h
 case call c =>
  refine ⟨sm, fun x g => ?_⟩;simp [Op.operands, Call.operands] at g;split at h
  ·grind
  ·grind
  ·cases h
 all_goals (refine ⟨sm, fun x g => ?_⟩; first | (simp [Op.operands] at g ⊢; done) | (simp [Op.operands] at g ⊢; exact g) | (simp [Op.operands] at g ⊢; grind))
theorem Ycu {z : Oper} (b : bareOp z.op = some x) : (∃ f : Value -> Sem Value, (∀ (ρ : Operand -> Value), execOp ρ z = (do let u <- f (ρ x); pure (Next.value u))) /\ ∀ v, (∃ u, ∀ w, (f v).run P w = .ok u w) \/ ∀ w, ∃ h, (f v).run P w = .halt h w /\ ∀ p, h ≠ .panic p) := by
 unfold bareOp at b;split at b
 ·rename_i y g;simp at b;subst b;exact ⟨fun v => pure v, fun ρ => by simp [execOp, g], fun v => .inl ⟨v, fun w => sm⟩⟩
 ·rename_i y i g;simp at b;subst b;refine ⟨fun v => Instr.extract v i, fun ρ => by simp [execOp, g], fun v => ?_⟩;cases v with
  | tuple vs =>
   cases j : vs[i]? with
   | none => exact .inr fun w => ⟨_, by simp [Instr.extract, j, stuck]; rfl, sm⟩
   | some u => exact .inl ⟨u, fun w => by simp [Instr.extract, j]⟩
  | _ => exact .inr fun w => ⟨_, by simp [Instr.extract, stuck]; rfl, sm⟩
 ·cases b
theorem Yas (a : Act) {d b : Option Tmp} (u v : Value) (h : d ≠ b \/ d = none) : (a.put d u).put b v = (a.put b v).put d u := by
 cases d with
 | none => rfl
 | some d => cases b with
  | none => rfl
  | some b =>
   have g : d ≠ b := fun e => gr;simp only [Act.put];congr 1;exact Array.setIfInBounds_comm _ _ g
theorem Ydi {ops : Array Oper} {W N : Nat} {z k : Oper} {L : List Nat} (hz : ops[W]? = some z) (hk : ops[N]? = some k) (hb : bareOp z.op = some x) (Z : z.dst = some d) (hg : z.guard = none) (I : swapOk ops d x k = true) (hp : ∀ c a w, ¬ Q (.panic c) a w) (hl : ¬ LetsOut Q) (h : wpOps P ops Q (W :: N :: L) a w) : wpOps P ops Q (N :: W :: L) a w := by
 unfold swapOk at I;rw [X9, X9] at I;obtain ⟨O, B, U⟩ := I;obtain ⟨f, f1, f2⟩ := Ycu (P := P) hb;have wz : ∀ y, Region.wanted z y = true := fun y => by simp [Region.wanted, hg]
 simp [wpOps, hz, hk, wz] at h ⊢;have h := h.resolve_right (fun h => hl h.2);have A : ∀ (i : Act) (w' : World) u, (∀ w, (f (i.eval x)).run P w = .ok u w) -> (execOp i.eval z).run P w' = .ok (.value u) w' := fun i w' u hu => by simp_all
 have D : ∃ u, ∀ w, (f (a.eval x)).run P w = .ok u w := by
  rcases f2 (a.eval x) with E | E
  ·exact E
  ·exfalso;obtain ⟨hh, e, p⟩ := E w;unfold Oper.wp at h;rw [f1] at h;simp [X34, e] at h;cases hh <;> simp_all [Oper.upon, Result.andThen]
 obtain ⟨u, hu⟩ := D;unfold Oper.wp at h;rw [A a w u hu, Oper.upon_value, Z] at h
 -- what k reads is the same
 have F : execOp (a.put (some d) u).eval k = execOp a.eval k := by
  split at O
  ·rename_i xs ho;obtain ⟨o1, o2⟩ := Yct ho;refine execOp_congr k o1 (fun y hy => ?_);have := Xa.1 O y (o2 y hy);cases y with
   | tmp q =>
    have p : d ≠ q := fun e => by rw [e] at this; simp [isTmp] at this
    rw [Y6, Y6];show (a.tmps.setIfInBounds d u).getD q undef = a.tmps.getD q undef;rw [Y6u, X2 (fun e => p e.1.symm)]
   | _ => rfl
  ·cases O
 have M : Region.wanted k (yielded ops (a.put (some d) u).tmps) = Region.wanted k (yielded ops a.tmps) := by
  unfold Region.wanted;cases G : k.guard with
  | none => rfl
  | some g =>
   obtain ⟨j, want⟩ := g;rw [G] at U;simp only at U ⊢;have : yielded ops (a.put (some d) u).tmps j = yielded ops a.tmps j := by
    unfold yielded;cases hj : (ops[j]?).bind (·.dst) with
    | none => rfl
    | some X =>
     rw [hj] at U;have p : d ≠ X := fun e => by simp_all
     simp;show (match (a.tmps.setIfInBounds d u)[X]? with | some (.bool b) => some b | _ => none) = _;rw [X1z, X2 p];rfl
   rw [this]
 -- what z does behind k
 have l : k.dst ≠ some d /\ ∀ (i : Act) v, (i.put k.dst v).eval x = i.eval x := by
  cases l : k.dst with
  | none => exact ⟨sm, fun i v => rfl⟩
  | some Y =>
   rw [l] at B;simp at B;refine ⟨fun e => by simp at e; rw [e] at B; simp at B, fun i v => ?_⟩;cases x with
   | tmp q =>
    have p : Y ≠ q := fun e => by rw [e] at B; simp [isTmp] at B
    rw [Y6, Y6];show (i.tmps.setIfInBounds Y v).getD q undef = i.tmps.getD q undef;rw [Y6u, X2 (fun e => p e.1.symm)]
   | _ => rfl
 have back : ∀ (i : Act) (w' : World), i.eval x = a.eval x -> wpOps P ops Q L (i.put (some d) u) w' -> (z.wp P i w' (wpOps P ops Q L) Q \/ (z.asks P i w' /\ LetsOut Q)) := fun i w' e h => by
  left;unfold Oper.wp;rw [A i w' u gr, Oper.upon_value, Z];exact h
 have m : ∀ (i : Act) v, (i.put (some d) u).put k.dst v = (i.put k.dst v).put (some d) u := fun i v => Yas i u v (.inl (fun e => l.1 e.symm));rw [M] at h;split
 ·rename_i hw;rw [X4 hw] at h;have h := h.resolve_right (fun h => hl h.2);left;unfold Oper.wp at h ⊢;rw [F] at h;generalize (execOp a.eval k).run P w = r at *;cases r with
  | ok n w' =>
   cases n <;> simp [Oper.upon] at h ⊢
   case value v => rw [m] at h; exact back _ _ (l.2 _ _) h
   case skip => rw [m] at h; exact back _ _ (l.2 _ _) h
   case defer dd =>
    have : ({ (a.put (some d) u) with defers := dd :: (a.put (some d) u).defers } : Act) = ({ a with defers := dd :: a.defers } : Act).put (some d) u := rfl;rw [this, m] at h;exact back _ _ ((l.2 _ _).trans rfl) h
   case enter f' args =>
    refine X2m h (fun e V C => ?_);cases e with
    | returned v => simp_all
    | panicked c => exact (hp _ _ _ C).elim
    | outgrown => exact C
   case row rw_ args =>
    refine Rows.mono h (fun v V C => ?_);rw [m] at C;exact back _ _ (l.2 _ _) C
  | halt x' w' =>
   cases x' <;> simp [Oper.upon] at h ⊢;exact (hp _ _ _ h).elim
 ·grind
def Swap (ops : Array Oper) (y c : Nat) : Prop := ∃ z k x d, ops[y]? = some z /\ ops[c]? = some k /\ bareOp z.op = some x /\ z.dst = some d /\ z.guard = none /\ swapOk ops d x k = true
theorem Yeq {ops : Array Oper} {y : Nat} {L : List Nat} (g : ∀ c a w, ¬ Q (.panic c) a w) (b : ¬ LetsOut Q) : ∀ {C : List Nat}, (∀ c ∈ C, Swap ops y c) -> ∀ {a : Act} {w : World}, wpOps P ops Q (y :: (C ++ L)) a w -> wpOps P ops Q (C ++ y :: L) a w
 | [], _, a, w, h => h
 | c :: C, hC, a, w, h => by
  obtain ⟨z, k, x, d, i, j, l, m, p, q⟩ := hC c Xp;have := Ydi i j l m p q g b (L := C ++ L) h;rw [X20, wpOps_cons] at *;exact wpOp_mono (fun a w h => Yeq g b (fun c A => hC c (X3 _ A)) h) this
theorem Ydj {P : Program} {ops : Array Oper} {Q : Exit -> Act -> World -> Prop} {L L' : List Nat} (h : ∀ a w, wpOps P ops Q L a w -> wpOps P ops Q L' a w) : ∀ {A : List Nat} {a : Act} {w : World}, wpOps P ops Q (A ++ L) a w -> wpOps P ops Q (A ++ L') a w
 | [], a, w, hh => h a w hh
 | x :: A, a, w, hh => by
  rw [X20, wpOps_cons] at *;exact wpOp_mono (fun a w b => Ydj h b) hh
theorem Ycv {P : Program} {ops : Array Oper} {Q : Exit -> Act -> World -> Prop} {s : Nat} {T : List Nat} (j : ∀ c a w, ¬ Q (.panic c) a w) (i : ¬ LetsOut Q) : ∀ {l C : List Nat}, (∀ y ∈ l, y < s -> ∀ c ∈ C, Swap ops y c) -> l.Pairwise (fun c y => y < s -> ¬ c < s -> Swap ops y c) -> ∀ {a : Act} {w : World}, wpOps P ops Q (l.filter (fun y => decide (y < s)) ++ (C ++ (l.filter (fun y => !decide (y < s)) ++ T))) a w -> wpOps P ops Q (C ++ (l ++ T)) a w
 | [], C, _, _, a, w, h => by simpa using h
 | y :: l, C, hC, hpw, a, w, h => by
  obtain ⟨D, m⟩ := X1j.1 hpw;by_cases b : y < s
  ·rw [List.filter_cons_of_pos (by simpa using b), List.filter_cons_of_neg (by simpa using b), X20, wpOps_cons] at h;rw [X20];refine Yeq j i (hC y Xp b) ?_;rw [wpOps_cons];exact wpOp_mono (fun a w q => Ycv j i (fun p g => hC p (X3 _ g)) m q) h
  ·rw [List.filter_cons_of_neg (by simpa using b), List.filter_cons_of_pos (by simpa using b)] at h;have z : wpOps P ops Q (l.filter (fun y => decide (y < s)) ++ ((C ++ [y]) ++ (l.filter (fun y => !decide (y < s)) ++ T))) a w :=gr;have := Ycv j i (C := C ++ [y]) (fun p g A c B => gr) m z;simpa [X7] using this
noncomputable def fixO (hard : Nat -> Prop) : Nat -> List Nat -> List Nat := open Classical in fun
 | 0, l => l
 | _ + 1, [] => []
 | n + 1, a :: l => if hard a then fixO hard n (l.filter fun y => decide (y < a)) ++ a :: fixO hard n (l.filter fun y => !decide (y < a)) else a :: fixO hard n l
theorem Y3p {hard : Nat -> Prop} : ∀ (n : Nat) {l : List Nat}, List.Perm (fixO hard n l) l
 | 0, l => by rw [fixO]
 | n + 1, [] => by rw [fixO]
 | n + 1, a :: l => by
  rw [fixO];split
  ·refine (List.perm_middle).trans (List.Perm.cons a ?_);exact (List.Perm.append (Y3p n) (Y3p n)).trans (List.filter_append_perm _ l)
  ·exact List.Perm.cons a (Y3p n)
theorem Y74 {hard : Nat -> Prop} {l : List Nat} {x : Nat} : x ∈ fixO hard n l ↔ x ∈ l := (Y3p n).mem_iff
theorem Y4k {hard : Nat -> Prop} {D : Nat -> Nat -> Prop} : ∀ (n : Nat) {l : List Nat}, l.length <= n -> l.Pairwise (fun b x => x < b -> ¬ hard b -> D x b) -> (fixO hard n l).Pairwise (fun b x => x < b -> D x b)
 | 0, l, hn, hp => by
  obtain rfl : l = [] := Xo.1 om;rw [fixO]; exact List.Pairwise.nil
 | n + 1, [], hn, hp => by rw [fixO]; exact List.Pairwise.nil
 | n + 1, a :: l, hn, hp => by
  obtain ⟨p, j⟩ := X1j.1 hp;rw [fixO];simp at hn;split
  ·rename_i m;have q : ∀ z ∈ fixO hard n (l.filter fun y => decide (y < a)), z < a := fun z h => by
    have := (X1s.1 (Y74.1 h)).2; simpa using this
   have A : ∀ z ∈ fixO hard n (l.filter fun y => !decide (y < a)), a <= z := fun z h => by
    have := (X1s.1 (Y74.1 h)).2; simpa using this
   refine List.pairwise_append.2 ⟨Y4k n (by have := List.length_filter_le (fun y => decide (y < a)) l; omega) (j.filter _), X1j.2 ⟨fun x i g => ?_, Y4k n gr (j.filter _)⟩, fun z h x i g => ?_⟩
   ·grind
   ·grind
  ·rename_i m;exact X1j.2 ⟨fun x i g => p x (Y74.1 i) g m, Y4k n om j⟩
theorem Y6g {P : Program} {ops : Array Oper} {Q : Exit -> Act -> World -> Prop} {hard Fl : Nat -> Prop} (i : ∀ c a w, ¬ Q (.panic c) a w) (g : ¬ LetsOut Q) : ∀ (n : Nat) {l T : List Nat}, l.length <= n -> l.Pairwise (fun c y => y < c -> hard c -> Fl y) -> l.Pairwise (fun c y => y < c -> Fl y -> Swap ops y c) -> ∀ {a : Act} {w : World}, wpOps P ops Q (fixO hard n l ++ T) a w -> wpOps P ops Q (l ++ T) a w
 | 0, l, T, hn, h1, h2, a, w, h => by
  obtain rfl : l = [] := Xo.1 om;rw [fixO] at h; exact h
 | n + 1, [], T, hn, h1, h2, a, w, h => by rw [fixO] at h; exact h
 | n + 1, x :: l, T, hn, h1, h2, a, w, h => by
  obtain ⟨B, p⟩ := X1j.1 h1;obtain ⟨E, m⟩ := X1j.1 h2;simp at hn;rw [fixO] at h;split at h
  ·rename_i z;rw [X7, X20] at h;have F := Y6g i g n gr (p.filter _) (m.filter _) h;have G := Ydj (A := l.filter (fun y => decide (y < x))) (L' := [x] ++ (l.filter (fun y => !decide (y < x)) ++ T)) (fun a w h => by
    rw [wpOps_cons] at h;rw [List.singleton_append, wpOps_cons];exact wpOp_mono (fun a w h => Y6g i g n gr (p.filter _) (m.filter _) h) h) F
   have I := Ycv (C := [x]) i g (fun y j b c q => by rw [Xb.1 q]; exact E y j b (B y j b z)) (m.imp_of_mem (fun {c y} q j h b D => h om (B y j b z))) G;exact I
  ·rw [X20, wpOps_cons] at h ⊢;exact wpOp_mono (fun a w h => Y6g i g n om p m h) h
theorem Y66 {ops : Array Oper} {i d : Nat} : ∀ {n : Nat}, floatTo ops i d x n = true -> ∀ m, m < n -> i < m -> ∀ k, ops[m]? = some k -> swapOk ops d x k = true \/ ∃ e ∈ k.after, Region.binds .any e = true /\ e.on = i
 | 0, _, m, hm, _, _, _ => om
 | n + 1, h, m, hm, him, k, hk => by
  simp only [floatTo, X9, X2r, X1a] at h;by_cases e : m = n
  ·subst e;rcases h.1 with b | b
   ·omega
   ·rw [hk] at b;simp only [X2r, X1o, X9] at b;rcases b with b | ⟨e, j, g, l⟩
    ·exact .inl b
    ·exact .inr ⟨e, by simpa using j, g, Nat.eq_of_beq_eq_true l⟩
  ·exact Y66 h.2 m om him k hk
theorem Y6h : DrawHyp (R := R) T sig caps orc (drawReg T sig caps orc) := by
 intro ops env K r h t;have hTS : AllJ (Fr (drawTS sig ops env)) env := by
  have : ∀ L : List DS, AllJ (Fr (firstOk env L)) env := by
   intro L
   induction L with
   | nil => exact fun r => ⟨Yar rfl rfl _, fun N => by simp [firstOk] at N⟩
   | cons D L X =>
    unfold firstOk;split
    ·rename_i hE; exact Ybn hE
    ·exact X
  exact this _
 obtain ⟨E, Y, k1, k2, k3, k4⟩ := Y65 (k := 0) h hTS rfl rfl (fun m => sm) (fun j hj => om);simp at k2 k4;rw [<- List.range_eq_range'] at k2;have F : ∀ (i : Nat) (o : Oper), ops[i]? = some o -> ∀ e ∈ o.after, Region.binds .any e = true -> e.on < i := fun i o ho => (k4 i (X10.1 ho).1).1 o ho;have C : unl ops.size (Array.replicate ops.size false) = List.range ops.size := by
  unfold unl;rw [List.filter_eq_self];intro i hi;have := X1v.1 hi;simp [this]
 obtain ⟨I, g2⟩ := Ybl .any ops F ops.size t (Array.replicate ops.size false) sm (by rw [C]; simp);rw [C] at I
 let g := Region.linearise .any ops t
 have hπ : g = Region.linearise.go .any ops ops.size t (Array.replicate ops.size false) [] := rfl;rw [<- hπ] at I g2;have O : g.Nodup := I.symm.nodup List.nodup_range;have G : ∀ (j : Nat) (o : Oper) (e : Edge), ops[j]? = some o -> e ∈ o.after -> Region.binds .any e = true -> ∀ (A B : List Nat), g = A ++ j :: B -> e.on ∈ A := by
  intro j o e ho he N A B hAB;rcases g2 A j B hAB o ho e he N with h | h
  ·simp only [X11, X29] at h;split at h <;> simp at h
  ·exact h
 have l : ∀ (j i : Nat), Anc ops j i -> ∀ (A B : List Nat), g = A ++ j :: B -> i ∈ A := by
  intro j i M
  induction M with
  | edge Z h2 h3 => grind
  | @trans j0 i0 o0 e0 Z h2 h3 h4 X =>
   intro A B e;have h := G _ _ _ Z h2 h3 A B e;obtain ⟨A1, A2, rfl⟩ := List.append_of_mem h;have := X A1 (A2 ++ j0 :: B) gr;exact Xe _ this
 have U : ∀ a ∈ g, a < ops.size := fun a M => X1v.1 (I.subset M)
 -- what comes later in g is no ancestor
 have pw : ∀ (D : Nat -> Nat -> Prop), (∀ (A B : List Nat) (c y : Nat), g = A ++ c :: B -> y ∈ B -> D c y) -> g.Pairwise D := by
  intro D hD;have go : ∀ (A B : List Nat), g = A ++ B -> B.Pairwise D := by
   intro A B
   induction B generalizing A with
   | nil => simp_all
   | cons a B X =>
    intro e;exact X1j.2 ⟨fun x hx => hD A B a x e hx, X (A ++ [a]) (by rw [e]; simp)⟩
  exact go [] g rfl
 have q : ∀ (A B : List Nat) (c y : Nat), g = A ++ c :: B -> y ∈ B -> ¬ Anc ops c y := fun A B c y e V M => by
  have Z := l c y M A B e;rw [e] at O;exact (X12.1 O).2.2 y Z y (by simp [V]) rfl
 let hard : Nat -> Prop := fun j => ¬ ∀ i, i < j -> Anc ops j i \/ Dis (Y.getD i none) (Y.getD j none)
 let Fl : Nat -> Prop := fun i => floatOk ops i = true
 let D : Nat -> Nat -> Prop := fun x b => Dis (Y.getD x none) (Y.getD b none)
 have hpr := Y4k (hard := hard) (D := D) g.length (Xd _) (pw _ (fun A B c y e V z hnh => by
  have := (Classical.not_not.1 hnh) y z;exact this.resolve_left (q A B c y e V)))
 have htr := Trace.reorder (Yf9 ops) List.pairwise_lt_range ((Y3p (hard := hard) g.length).trans I) hpr k2;refine ⟨fixO hard g.length g, Yaq k3 htr, fun P Q a w hp hl h => ?_⟩;have := Y6g (P := P) (Q := Q) (hard := hard) (Fl := Fl) (T := []) hp hl g.length (Xd _) (pw _ (fun A B c y e V z hh => ?_)) (pw _ (fun A B c y e V z p => ?_)) (a := a) (w := w) (by simpa using h)
 ·simpa using this
 ·grind
 ·have hc := U c (by rw [e]; simp);have W := U y gr;have p : floatOk ops y = true := p;unfold floatOk at p;rw [Xu W] at p;simp only at p;split at p
  ·rename_i x d N hd;simp at p;obtain ⟨hg, _, hft⟩ := p;rcases Y66 hft c hc z ops[c] (Xu hc) with h' | ⟨e', he', hbe, hon⟩
   ·exact ⟨ops[y], ops[c], x, d, Xu W, Xu hc, N, hd, hg, h'⟩
   ·grind
  ·cases p
theorem Ybc (hT : TabOk P T) (j : OrcOk P sig orc) (q : P.follows .mixedOrders = true) (p : P.funcs[f]? = some fn) (m : fn.body = some code) {args : List RV} {b : List (Σ t : Ty, t.D)} {i : List (Σ t : Ty, t.D) -> Option R} {rr : R}
  (g : sg.muts = false) (l : ∀ xs, i xs = some rr -> xs = b) (h : evFn T sig caps orc (drawReg T sig caps orc) fuel ann sg fn code args i = some rr) : FnSpec P f sg.results args b := Yey hT j q Y6h p m g l h
end
inductive Dir where
 | l | r | t | f | b
 deriving DecidableEq, Inhabited
section
variable {R : Type} (T : Tab) (sig : FuncId -> Option Sig) (caps : FuncId -> List Ty) (orc : Orc)
def codeAt (fuel : Nat) (ann : Nat -> Option (List Nat)) : List Dir -> Nat -> Code -> (Exit -> Env -> Option R) -> List (Env -> Option R) -> Option (Nat × Code × (Exit -> Env -> Option R))
 | [], m, c, K, _ => some (m, c, K)
 | .l :: p, m, .seq a b, K, rs => codeAt fuel ann p m a (fun e env' => match e with
  | .normal => evCode T sig caps orc (drawReg T sig caps orc) fuel ann m b env' K
  | e => K e env') rs
 | .r :: p, m, .seq _ b, K, rs => codeAt fuel ann p m b K rs
 | .t :: p, m, .cond _ a _, K, rs => codeAt fuel ann p m a K rs
 | .f :: p, m, .cond _ _ b, K, rs => codeAt fuel ann p m b K rs
 | .b :: p, _, .block id c, K, rs => codeAt fuel ann p id c (fun e env' => match e with
  | .exit g => if g = id then K .normal env' else K e env'
  | e => K e env') rs
 | .b :: p, m, .loop c, K, rs => match ann m, rs with
  | some keep, rc :: rs => codeAt fuel ann p m c (fun e env' => match e with
   | .normal => rc (dropAll keep (List.range env'.length) env')
   | e => K e env') rs
  | _, _ => none
 | _, _, _, _, _ => none
def loopAt (fuel : Nat) (ann : Nat -> Option (List Nat)) (p : List Dir) (c : Code) (K : Exit -> Env -> Option R) (rs : List (Env -> Option R)) (k : Nat) (env : Env) : Option R :=
 match codeAt T sig caps orc fuel ann p 0 c K rs with
 | some (m, .loop c, K) => match ann m with
  | some keep => iter (fun b env => evCode T sig caps orc (drawReg T sig caps orc) fuel ann m c env fun e env' => match e with
   | .normal => b (dropAll keep (List.range env'.length) env')
   | e => K e env') k env
  | none => none
 | _ => none
end
inductive PC where
 | ro (t : Ty)
 | pin
 | self
 deriving DecidableEq
@[reducible] def AppS : List PC -> Type -> Type
 | [], β => β
 | .ro t :: cs, β => t.D -> AppS cs β
 | .pin :: cs, β => AppS cs β
 | .self :: cs, β => AppS cs β
inductive PS where
 | v (t : Ty)
 | p (t : Ty)
 | c (f : FuncId) (ts : List Ty)
 | s (f : FuncId) (cs : List PC)
 deriving DecidableEq
@[reducible] def App : List PS -> Type -> Type
 | [], β => β
 | .v t :: ps, β => t.D -> App ps β
 | .p t :: ps, β => t.D -> App ps β
 | .c _ ts :: ps, β => AppL ts (App ps β)
 | .s _ cs :: ps, β => AppS cs (App ps β)
where AppL : List Ty -> Type -> Type
 | [], β => β
 | t :: ts, β => t.D -> AppL ts β
def appC {b g : Type} : (ts : List Ty) -> List (Σ t : Ty, t.D) -> App.AppL ts b -> (b -> Option g) -> Option g
 | [], [], F, k => k F
 | t :: ts, x :: xs, F, k => if h : x.1 = t then appC ts xs (F (h ▸ x.2)) k else none
 | _, _, _, _ => none
def appS {b g : Type} : (cs : List PC) -> List RCap -> AppS cs b -> (b -> Option g) -> Option g
 | [], [], F, k => k F
 | .ro t :: cs, .ro x :: xs, F, k => if h : x.1 = t then appS cs xs (F (h ▸ x.2)) k else none
 | .pin :: cs, .pin :: xs, F, k => appS cs xs F k
 | .self :: cs, .self :: xs, F, k => appS cs xs F k
 | _, _, _, _ => none
def app {b : Type} : (ps : List PS) -> List RV -> App ps b -> Option b
 | [], [], F => some F
 | .v t :: ps, .val t' x :: as, F => if h : t' = t then app ps as (F (h ▸ x)) else none
 | .p t :: ps, .ptr t' x :: as, F => if h : t' = t then app ps as (F (h ▸ x)) else none
 | .c f ts :: ps, .clo f' xs :: as, F => if f' = f then appC ts xs F (fun G => app ps as G) else none
 | .s f cs :: ps, .fptr f' xs :: as, F => if f' = f then appS cs xs F (fun G => app ps as G) else none
 | _, _, _ => none
def OkC (b : Type) : (ts : List Ty) -> App.AppL ts b -> (List (Σ t : Ty, t.D) -> b -> Prop) -> Prop
 | [], F, Q => Q [] F
 | t :: ts, F, Q => ∀ x : t.D, OkC b ts (F x) (fun xs G => Q (⟨t, x⟩ :: xs) G)
def OkS (b : Type) : (cs : List PC) -> AppS cs b -> (List RCap -> b -> Prop) -> Prop
 | [], F, Q => Q [] F
 | .ro t :: cs, F, Q => ∀ x : t.D, OkS b cs (F x) (fun xs G => Q (.ro ⟨t, x⟩ :: xs) G)
 | .pin :: cs, F, Q => OkS b cs F (fun xs G => Q (.pin :: xs) G)
 | .self :: cs, F, Q => OkS b cs F (fun xs G => Q (.self :: xs) G)
def OkP (b : Type) : (ps : List PS) -> App ps b -> (List RV -> b -> Prop) -> Prop
 | [], F, Q => Q [] F
 | .v t :: ps, F, Q => ∀ x : t.D, OkP b ps (F x) (fun as G => Q (.val t x :: as) G)
 | .p t :: ps, F, Q => ∀ x : t.D, OkP b ps (F x) (fun as G => Q (.ptr t x :: as) G)
 | .c f ts :: ps, F, Q => OkC (App ps b) ts F (fun xs G => OkP b ps G (fun as H => Q (.clo f xs :: as) H))
 | .s f cs :: ps, F, Q => OkS (App ps b) cs F (fun xs G => OkP b ps G (fun as H => Q (.fptr f xs :: as) H))
theorem Ybo {b i : Type} : ∀ {ts : List Ty} {xs : List (Σ t : Ty, t.D)} {F : App.AppL ts b} {k : b -> Option i} {g : i} {Q : List (Σ t : Ty, t.D) -> b -> Prop}, OkC b ts F Q -> appC ts xs F k = some g -> ∃ G, Q xs G /\ k G = some g
 | [], [], F, k, g, Q, h, ha => ⟨F, h, ha⟩
 | t :: ts, ⟨t', x⟩ :: xs, F, k, g, Q, h, ha => by
  simp only [appC] at ha;split at ha
  ·rename_i e;subst e;obtain ⟨G, j, l⟩ := Ybo (h x) ha;exact ⟨G, j, l⟩
  ·simp at ha
 | [], x :: xs, F, k, g, Q, h, ha => by simp [appC] at ha
 | t :: ts, [], F, k, g, Q, h, ha => by simp [appC] at ha
theorem Y6i {j l : Type} : ∀ {cs : List PC} {xs : List RCap} {F : AppS cs j} {k : j -> Option l} {g : l} {Q : List RCap -> j -> Prop}, OkS j cs F Q -> appS cs xs F k = some g -> ∃ G, Q xs G /\ k G = some g
 | [], [], F, k, g, Q, h, ha => ⟨F, h, ha⟩
 | .ro t :: cs, .ro ⟨t', x⟩ :: xs, F, k, g, Q, h, ha => by
  simp only [appS] at ha;split at ha
  ·rename_i e;subst e;obtain ⟨G, b, i⟩ := Y6i (h x) ha;exact ⟨G, b, i⟩
  ·simp at ha
 | .pin :: cs, .pin :: xs, F, k, g, Q, h, ha => by
  simp [appS] at ha;obtain ⟨G, b, i⟩ := Y6i (Q := fun xs G => Q (.pin :: xs) G) h ha;exact ⟨G, b, i⟩
 | .self :: cs, .self :: xs, F, k, g, Q, h, ha => by
  simp [appS] at ha;obtain ⟨G, b, i⟩ := Y6i (Q := fun xs G => Q (.self :: xs) G) h ha;exact ⟨G, b, i⟩
 | [], x :: xs, F, k, g, Q, h, ha => by simp [appS] at ha
 | .ro t :: cs, [], F, k, g, Q, h, ha => by simp [appS] at ha
 | .ro t :: cs, .pin :: _, F, k, g, Q, h, ha => by simp [appS] at ha
 | .ro t :: cs, .self :: _, F, k, g, Q, h, ha => by simp [appS] at ha
 | .pin :: cs, [], F, k, g, Q, h, ha => by simp [appS] at ha
 | .pin :: cs, .ro _ :: _, F, k, g, Q, h, ha => by simp [appS] at ha
 | .pin :: cs, .self :: _, F, k, g, Q, h, ha => by simp [appS] at ha
 | .self :: cs, [], F, k, g, Q, h, ha => by simp [appS] at ha
 | .self :: cs, .ro _ :: _, F, k, g, Q, h, ha => by simp [appS] at ha
 | .self :: cs, .pin :: _, F, k, g, Q, h, ha => by simp [appS] at ha
theorem Y67 {b : Type} : ∀ {ps : List PS} {as : List RV} {F : App ps b} {g : b} {Q : List RV -> b -> Prop}, OkP b ps F Q -> app ps as F = some g -> Q as g
 | [], [], F, g, Q, h, ha => by simp [app] at ha; subst ha; exact h
 | .v t :: ps, .val t' x :: as, F, g, Q, h, ha => by
  simp only [app] at ha;split at ha
  ·rename_i e;subst e;exact Y67 (Q := fun as G => Q (.val _ x :: as) G) (h x) ha
  ·simp at ha
 | .p t :: ps, .ptr t' x :: as, F, g, Q, h, ha => by
  simp only [app] at ha;split at ha
  ·rename_i e;subst e;exact Y67 (Q := fun as G => Q (.ptr _ x :: as) G) (h x) ha
  ·simp at ha
 | .c f ts :: ps, .clo f' xs :: as, F, g, Q, h, ha => by
  simp only [app] at ha;split at ha
  ·rename_i e;subst e;obtain ⟨G, i, j⟩ := Ybo h ha;exact Y67 (Q := fun as G => Q (.clo _ xs :: as) G) i j
  ·simp at ha
 | [], _ :: _, F, g, Q, h, ha => by simp [app] at ha
 | .v t :: ps, [], F, g, Q, h, ha => by simp [app] at ha
 | .v t :: ps, .ptr _ _ :: _, F, g, Q, h, ha => by simp [app] at ha
 | .v t :: ps, .clo _ _ :: _, F, g, Q, h, ha => by simp [app] at ha
 | .p t :: ps, [], F, g, Q, h, ha => by simp [app] at ha
 | .p t :: ps, .val _ _ :: _, F, g, Q, h, ha => by simp [app] at ha
 | .p t :: ps, .clo _ _ :: _, F, g, Q, h, ha => by simp [app] at ha
 | .c f ts :: ps, [], F, g, Q, h, ha => by simp [app] at ha
 | .c f ts :: ps, .val _ _ :: _, F, g, Q, h, ha => by simp [app] at ha
 | .c f ts :: ps, .ptr _ _ :: _, F, g, Q, h, ha => by simp [app] at ha
 | .v t :: ps, .fptr _ _ :: _, F, g, Q, h, ha => by simp [app] at ha
 | .p t :: ps, .fptr _ _ :: _, F, g, Q, h, ha => by simp [app] at ha
 | .c f ts :: ps, .fptr _ _ :: _, F, g, Q, h, ha => by simp [app] at ha
 | .s f cs :: ps, .fptr f' xs :: as, F, g, Q, h, ha => by
  simp only [app] at ha;split at ha
  ·rename_i e;subst e;obtain ⟨G, i, j⟩ := Y6i h ha;exact Y67 (Q := fun as G => Q (.fptr _ xs :: as) G) i j
  ·simp at ha
 | .s f cs :: ps, [], F, g, Q, h, ha => by simp [app] at ha
 | .s f cs :: ps, .val _ _ :: _, F, g, Q, h, ha => by simp [app] at ha
 | .s f cs :: ps, .ptr _ _ :: _, F, g, Q, h, ha => by simp [app] at ha
 | .s f cs :: ps, .clo _ _ :: _, F, g, Q, h, ha => by simp [app] at ha
def FnOk (P : Program) (f : FuncId) (sg : Sig) (args : List RV) (g : List (Σ t : Ty, t.D)) : Prop :=
 match sg.box with
 | some b => ∃ t x0 y h, nthL args b.k = some (.ptr t x0) /\ g = ⟨t, y⟩ :: h /\ FnSpecBox P f sg.results b t x0 args y h
 | none => match sg.newb with
 | some id => ∃ t y h, g = ⟨t, y⟩ :: h /\ FnSpecNew P f id sg.results t args y h
 | none => match sg.muts with
 | false => if sg.own then (match sg.give with
  | none => ∃ t x0, args = [.val t x0] /\ g = [⟨t, x0⟩] /\ FnSpecSh P f t x0
  | some k => ∃ t x0 rest, args = insN k (.val t x0) rest /\ FnSpecG P f sg.results k t x0 rest g) else FnSpec P f sg.results args g
 | true => if sg.own then ∃ t x0 rest y, args = .val t x0 :: rest /\ g = [⟨t, y⟩] /\ FnSpecOwn P f t x0 rest y else ∃ t x0 rest y h, args = .val t x0 :: rest /\ g = ⟨t, y⟩ :: h /\ FnSpecMut P f sg.results t x0 rest y h
structure Entry (P : Program) where
 f : FuncId
 sg : Sig
 ps : List PS
 α : Type
 F : App ps (Option α)
 pk : α -> List (Σ t : Ty, t.D)
 en : Enterable P f
 ok : OkP (Option α) ps F (fun as q => ∀ x, q = some x -> FnOk P f sg as (pk x))
def orcL {P : Program} : List (Entry P) -> Orc
 | [], _, _ => none
 | e :: es, f, as => if f = e.f then (match app e.ps as e.F with
  | some q => some ⟨e.α, q, e.pk⟩
  | none => orcL es f as) else orcL es f as
def sigL {P : Program} : List (Entry P) -> FuncId -> Option Sig
 | [], _ => none
 | e :: es, f => if f = e.f then some e.sg else sigL es f
def agreeL {P : Program} : List (Entry P) -> Bool
 | [] => true
 | e :: es => (es.all fun e' => decide (e'.f = e.f -> e'.sg = e.sg)) && agreeL es
def capsL : List (FuncId × List Ty) -> FuncId -> List Ty
 | [], _ => []
 | p :: ps, f => if f = p.1 then p.2 else capsL ps f
theorem Y75 : ∀ {es : List (Entry P)} {f : FuncId} {as : List RV} {q : OrcRes}, orcL es f as = some q -> ∃ e ∈ es, f = e.f /\ ∃ g, app e.ps as e.F = some g /\ q = ⟨e.α, g, e.pk⟩
 | [], f, as, q, h => by simp [orcL] at h
 | e :: es, f, as, q, h => by
  simp [orcL] at h;split at h
  ·rename_i j;split at h
   ·grind
   ·obtain ⟨e', b, i⟩ := Y75 h;exact ⟨e', X3 _ b, i⟩
  ·obtain ⟨e', b, i⟩ := Y75 h;exact ⟨e', X3 _ b, i⟩
theorem Yat : ∀ {es : List (Entry P)} {f : FuncId} {sg : Sig}, agreeL es = true -> sigL es f = some sg -> ∀ e ∈ es, f = e.f -> e.sg = sg
 | [], f, sg, _, h, e, b, _ => by simp at b
 | e0 :: es, f, sg, ha, h, e, b, hf => by
  simp only [agreeL, X9, Xa, X1a] at ha;simp only [sigL] at h;split at h
  ·grind
  ·rename_i g;rcases Xr.1 b with rfl | b
   ·grind
   ·exact Yat ha.2 h e b hf
theorem Y6j {es : List (Entry P)} (i : agreeL es = true) : OrcOk P (sigL es) (orcL es) := by
 intro f sg args q x p m y;obtain ⟨e, j, h, g, l, rfl⟩ := Y75 m;have b := Yat i p e j h;subst b;subst h;exact ⟨e.en, Y67 e.ok l x y⟩
def un1 (t : Ty) : List (Σ t : Ty, t.D) -> Option t.D
 | [x] => if h : x.1 = t then some (h ▸ x.2) else none
 | _ => none
def un2 (t u : Ty) : List (Σ t : Ty, t.D) -> Option (t.D × u.D)
 | [x, y] => if h : x.1 = t then if k : y.1 = u then some (h ▸ x.2, k ▸ y.2) else none else none
 | _ => none
def un3 (t u v : Ty) : List (Σ t : Ty, t.D) -> Option (t.D × u.D × v.D)
 | [x, y, z] => if h : x.1 = t then if k : y.1 = u then if l : z.1 = v then some (h ▸ x.2, k ▸ y.2, l ▸ z.2) else none else none else none
 | _ => none
def un4 (t u v w : Ty) : List (Σ t : Ty, t.D) -> Option (t.D × u.D × v.D × w.D)
 | [x, y, z, q] => if h : x.1 = t then if k : y.1 = u then if l : z.1 = v then if m : q.1 = w then some (h ▸ x.2, k ▸ y.2, l ▸ z.2, m ▸ q.2) else none else none else none else none
 | _ => none
def pk4 (t u v w : Ty) : t.D × u.D × v.D × w.D -> List (Σ t : Ty, t.D) := fun x => [⟨t, x.1⟩, ⟨u, x.2.1⟩, ⟨v, x.2.2.1⟩, ⟨w, x.2.2.2⟩]
def pk1 (t : Ty) : t.D -> List (Σ t : Ty, t.D) := fun x => [⟨t, x⟩]
def pk2 (t u : Ty) : t.D × u.D -> List (Σ t : Ty, t.D) := fun x => [⟨t, x.1⟩, ⟨u, x.2⟩]
def pk3 (t u v : Ty) : t.D × u.D × v.D -> List (Σ t : Ty, t.D) := fun x => [⟨t, x.1⟩, ⟨u, x.2.1⟩, ⟨v, x.2.2⟩]
theorem Y4 (t : Ty) (r : t.D) : ∀ xs, un1 t xs = some r -> xs = pk1 t r := by
 intro xs h;unfold un1 at h;split at h
 ·rename_i x;obtain ⟨u, x⟩ := x;split at h
  ·rename_i e;subst e;simp at h;subst h;rfl
  ·simp at h
 ·simp at h
theorem Ym (t u : Ty) (r : t.D × u.D) : ∀ xs, un2 t u xs = some r -> xs = pk2 t u r := by
 intro xs h;unfold un2 at h;split at h
 ·rename_i x y;obtain ⟨b, x⟩ := x;obtain ⟨g, y⟩ := y;split at h
  ·rename_i e;subst e;split at h
   ·rename_i e;subst e;simp at h;subst h;rfl
   ·simp at h
  ·simp at h
 ·simp at h
theorem Yau (t u v : Ty) (r : t.D × u.D × v.D) : ∀ xs, un3 t u v xs = some r -> xs = pk3 t u v r := by
 intro xs h;unfold un3 at h;split at h
 ·rename_i x y z;obtain ⟨b, x⟩ := x;obtain ⟨g, y⟩ := y;obtain ⟨i, z⟩ := z;split at h
  ·rename_i e;subst e;split at h
   ·rename_i e;subst e;split at h
    ·rename_i e;subst e;simp at h;subst h;rfl
    ·simp at h
   ·simp at h
  ·simp at h
 ·simp at h
theorem Yf8 (t u v w : Ty) (r : t.D × u.D × v.D × w.D) : ∀ xs, un4 t u v w xs = some r -> xs = pk4 t u v w r := by
 intro xs h;unfold un4 at h;split at h
 ·rename_i x y z q;obtain ⟨b, x⟩ := x;obtain ⟨g, y⟩ := y;obtain ⟨i, z⟩ := z;obtain ⟨w', q⟩ := q;split at h
  ·rename_i e;subst e;split at h
   ·rename_i e;subst e;split at h
    ·rename_i e;subst e;split at h
     ·rename_i e;subst e;simp at h;subst h;rfl
     ·simp at h
    ·simp at h
   ·simp at h
  ·simp at h
 ·simp at h
theorem Y4a {es : List (Entry P)} (hT : TabOk P T) (g : agreeL es = true) (l : P.follows .mixedOrders = true) (j : P.funcs[f]? = some fn) (i : fn.body = some code) {args : List RV} {α : Type} {un : List (Σ t : Ty, t.D) -> Option α} {pk : α -> List (Σ t : Ty, t.D)} (b : (sg.box = none /\ sg.newb = none) /\ sg.muts = false /\ sg.own = false) (m : ∀ r xs, un xs = some r -> xs = pk r) {q : Option α} (h : evFn T (sigL es) caps (orcL es) (drawReg T (sigL es) caps (orcL es)) fuel ann sg fn code args un = q) :
  ∀ x, q = some x -> FnOk P f sg args (pk x) := by
 intro x p;subst h;unfold FnOk;rw [b.1.1, b.1.2, b.2.1, b.2.2];exact Ybc hT (Y6j g) l j i b.2.1 (fun xs h => m x xs h) p
theorem Ys {es : List (Entry P)} (hT : TabOk P T) (m : agreeL es = true) (A : P.follows .mixedOrders = true) (z : P.funcs[f]? = some fn) (p : fn.body = some code) {b : BoxSig} {x0 : t.D} {args : List RV} {α : Type} {un : List (Σ t : Ty, t.D) -> Option α} {pk : α -> List (Σ t : Ty, t.D)} (g : sg.box = some b) (l : nthL args b.k = some (.ptr t x0)) (i : ∀ r, ∃ y j, pk r = ⟨t, y⟩ :: j) (B : ∀ r xs, un xs = some r -> xs = pk r) {q : Option α} (h : evFnB T (sigL es) caps (orcL es) (drawReg T (sigL es) caps (orcL es)) fuel ann sg b fn code args un = q) :
  ∀ x, q = some x -> FnOk P f sg args (pk x) := by
 intro x C;subst h;unfold FnOk;rw [g];obtain ⟨y, j, e⟩ := i x;exact ⟨t, x0, y, j, l, e, Yec hT (Y6j m) A Y6h z p l (fun xs h => (B x xs h).trans e) C⟩
theorem Ydk {es : List (Entry P)} (hT : TabOk P T) (g : agreeL es = true) (l : P.follows .mixedOrders = true) (j : P.funcs[f]? = some fn) (i : fn.body = some code) {k : Nat} {x0 : t.D} {rest : List RV} {α : Type} {un : List (Σ t : Ty, t.D) -> Option α} {pk : α -> List (Σ t : Ty, t.D)} (b : (sg.box = none /\ sg.newb = none) /\ sg.muts = false /\ sg.own = true /\ sg.give = some k) (m : ∀ r xs, un xs = some r -> xs = pk r) {q : Option α} (h : evFnG T (sigL es) caps (orcL es) (drawReg T (sigL es) caps (orcL es)) fuel ann k sg fn code (insN k (.val t x0) rest) un = q) :
  ∀ x, q = some x -> FnOk P f sg (insN k (.val t x0) rest) (pk x) := by
 intro x p;subst h;unfold FnOk;rw [b.1.1, b.1.2, b.2.1, b.2.2.1, b.2.2.2];exact ⟨t, x0, rest, rfl, Yeb hT (Y6j g) l Y6h j i (fun xs h => m x xs h) p⟩
theorem Y68 {es : List (Entry P)} (hT : TabOk P T) (l : agreeL es = true) (z : P.follows .mixedOrders = true) (p : P.funcs[f]? = some fn) (m : fn.body = some code) {args : List RV} {α : Type} {un : List (Σ t : Ty, t.D) -> Option α} {pk : α -> List (Σ t : Ty, t.D)} (b : sg.box = none) (g : sg.newb = some id) (i : ∀ r, ∃ y j, pk r = ⟨t, y⟩ :: j) (A : ∀ r xs, un xs = some r -> xs = pk r) {q : Option α} (h : evFnN T (sigL es) caps (orcL es) (drawReg T (sigL es) caps (orcL es)) fuel ann id t sg.results fn code args un = q) :
  ∀ x, q = some x -> FnOk P f sg args (pk x) := by
 intro x B;subst h;unfold FnOk;rw [b, g];obtain ⟨y, j, e⟩ := i x;exact ⟨t, y, j, e, Yed hT (Y6j l) z Y6h p m (fun xs h => (A x xs h).trans e) B⟩
theorem Y1z (hf : P.funcs[f]? = some fn) (hb : fn.body = some code) (hn : (fn.name == "runtime.NumGoroutine") = false) : Enterable P f := ⟨fn, hf, gr⟩
theorem TEOk.plain {e : TE} {i : TypeInfo} (l : P.info? e.id = some i) (m : i.size = e.ty.sz) (p : i.bytes = e.bytes) (q : i.zero = some (zeroVal e.ty)) (g : e.ty.isAgg = false) (z : e.fn = false) (A : e.eq = false)
  (y : match e.ty with
   | .int k => P.underlying e.id = some (.int k)
   | .bool => P.underlying e.id = some .bool
   | .str => P.underlying e.id = some .string
   | .slice j _ => P.underlying e.id = some (.slice j)
   | _ => False) : TEOk P e := by
 refine ⟨fun h => (by rw [z] at h; cases h), fun _ => ⟨i, l, m, p, q⟩, fun _ => ?_, fun _ h => (by rw [g] at h; simp at h), fun h => gr⟩;obtain ⟨id, ty, bytes, fields, fn, eq⟩ := e;cases ty with
 | unit => simp [Ty.isAgg] at g
 | pair a b => simp [Ty.isAgg] at g
 | _ => exact y
def fieldsB : List Field -> List (Nat × TypeId) -> Bool
 | _, [] => true
 | f :: fs, p :: ps => Nat.beq f.offset p.1 && (Nat.beq f.type p.2 && fieldsB fs ps)
 | [], _ :: _ => false
theorem Y4b : ∀ {fs : List Field} {ps : List (Nat × TypeId)}, fieldsB fs ps = true -> ∀ (i off b : Nat), ps[i]? = some (off, b) -> ∃ f : Field, fs[i]? = some f /\ f.offset = off /\ f.type = b
 | fs, [], h, i, off, b, hi => by simp at hi
 | [], p :: ps, h, i, off, b, hi => by simp [fieldsB] at h
 | f :: fs, p :: ps, h, i, off, b, hi => by
  simp only [fieldsB, X9] at h;obtain ⟨j, l, g⟩ := h;cases i with
  | zero => simp_all
  | succ i => simpa using Y4b g i off b (by simpa using hi)
theorem TEOk.struct {e : TE} {i : TypeInfo} {fs : Array Field} {pl : List (Nat × Nat)} (l : P.info? e.id = some i) (m : i.size = e.ty.sz) (y : i.bytes = e.bytes) (z : i.zero = some (zeroVal e.ty)) (g : P.underlying e.id = some (.struct fs)) (p : fieldsB fs.toList e.fields = true)
  (B : fs.toList.mapM (fun f => (P.info? f.type).map fun i => (f.offset, i.size)) = some pl) (A : e.ty.isAgg = true) (C : e.fn = false) (q : e.eq = true -> (P.eqGuardType P.depth e.id = false /\ P.stoodInHeld e.id = false) /\ EqFs P fs.toList (flat e.ty) 0) : TEOk P e := by
 refine ⟨fun h => gr, fun _ => ⟨i, l, m, y, z⟩, fun _ => ?_, fun _ _ => ⟨fs, pl, g, B⟩, fun h => ⟨(q h).1, fs, g, (q h).2⟩⟩;obtain ⟨id, ty, bytes, fields, fn, eq⟩ := e;cases ty with
 | unit => exact ⟨fs, g, fun i off j h => by obtain ⟨f, l, m⟩ := Y4b p i off j h; exact ⟨f, gr⟩⟩
 | pair a b => exact ⟨fs, g, fun i off j h => by obtain ⟨f, l, m⟩ := Y4b p i off j h; exact ⟨f, gr⟩⟩
 | _ => simp [Ty.isAgg] at A
theorem TEOk.ofFn {e : TE} {i : TypeInfo} {z : Value} {ps rs : Array TypeId} {v : Bool} (g : P.info? e.id = some i) (j : i.size = 1) (l : i.zero = some z) (m : z.oneCell' = true) (p : P.underlying e.id = some (.func ps rs v)) (b : e.fn = true) (q : e.eq = false) : TEOk P e :=
 ⟨fun _ => ⟨i, z, ps, rs, v, g, j, l, m, p⟩, fun h => by (rw [b] at h; cases h), fun h => by (rw [b] at h; cases h), fun h => by (rw [b] at h; cases h), fun h => gr⟩
theorem Yf1 : TabOk P [] := fun e b => by simp at b
theorem Ye {e : TE} (h : TEOk P e) (hT : TabOk P T) : TabOk P (e :: T) := fun e' b => by
 rcases Xr.1 b with rfl | b
 ·exact h
 ·exact hT e' b
def un : Nat -> Env -> Env
 | 0, l => l
 | n + 1, l => .undef :: un n l
def lf (t : Ty) (x : t.D) (lv : Lvl) : Leaf := ⟨t, x, .at_ lv⟩
def lb (t : Ty) (x : t.D) (r j : Nat) : Leaf := ⟨t, x, .bor r j []⟩
def Wf : (t : Ty) -> t.D -> Prop
 | .int k, x => k.min <= x /\ x <= k.max
 | .bool, _ => True
 | .str, x => x.size <= maxLen
 | .slice _ t, x => x.length <= maxLen /\ ∀ y ∈ x, Wf t y
 | .unit, _ => True
 | .pair a b, x => Wf a x.1 /\ Wf b x.2
def fsB (g : Ty -> TypeId -> Bool) : Ty -> Nat -> List (Nat × TypeId) -> Bool
 | τ, off, [] => decide (τ = .unit)
 | τ, off, p :: ps => Nat.beq p.1 off && (match ps with
  | [] => g τ p.2 || (match τ with | .pair a .unit => g a p.2 | _ => false)
  | _ :: _ => (match τ with | .pair a b => g a p.2 && fsB g b (off + a.sz) ps | _ => false))
def tyB (T : Tab) : Nat -> Ty -> TypeId -> Bool
 | 0, _, _ => false
 | f + 1, τ, tid => match T.te tid with
  | none => false
  | some e => decide (e.ty = τ) && (match τ with
   | .slice g t => tyB T f t g && decide (0 < t.sz)
   | .pair a b => fsB (tyB T f) (.pair a b) 0 e.fields
   | .unit => fsB (tyB T f) .unit 0 e.fields
   | _ => true)
theorem Ydl {f : Nat} {b : TypeId} (h : tyB T f τ b = true) : ∃ e, T.te b = some e /\ e.ty = τ := by
 cases f with
 | zero => simp [tyB] at h
 | succ f =>
  simp [tyB] at h;split at h
  ·simp at h
  ·grind
theorem Y4c (hT : TabOk P T) {f : Nat} {b : TypeId} (h : tyB T f τ b = true) : P.cellsOf b = τ.sz := by
 obtain ⟨e, m, rfl⟩ := Ydl h;obtain ⟨p, rfl, g⟩ := Tab.te_mem m;obtain ⟨i, j, l, _⟩ := (hT e p).info g;simp [Program.cellsOf, j, l]
section
variable {H : Type} {enc : TypeId × Value -> H} {P : Program} {w : World} {spare : Nat -> Bool} {held : Bool} {T : Tab}
theorem Y80 (hT : TabOk P T) (l : ∀ (f : Nat) (τ : Ty) (j : TypeId) (cs : List Value) (d : DataW H × List MemPlace), tyB T f τ j = true -> DataW.trod enc P w 0 spare held fuel j cs = some d -> ∃ x, Rep (fun b => b < w.heap.size) w τ .ro cs x [] /\ Wf τ x) {cs : List Value} {f : Nat} :
  ∀ (ps : List (Nat × TypeId)) (τ : Ty) (off : Nat), fsB (tyB T f) τ off ps = true -> off + τ.sz <= cs.length -> (∀ p ∈ ps, ∃ d, DataW.trod enc P w 0 spare held fuel p.2 ((cs.drop p.1).take (P.cellsOf p.2)) = some d) ->
   ∃ x, Rep (fun b => b < w.heap.size) w τ .ro ((cs.drop off).take τ.sz) x [] /\ Wf τ x
 | [], τ, off, h, hl, hp => by
  simp only [fsB, X1a] at h;subst h;exact ⟨(), ⟨by simp [Ty.sz], rfl⟩, trivial⟩
 | p :: ps, τ, off, h, hl, hp => by
  unfold fsB at h;simp only [X9] at h;obtain ⟨m, g⟩ := h;have m := Nat.eq_of_beq_eq_true m;obtain ⟨d, i⟩ := hp p sm;rw [m] at i;cases ps with
  | nil =>
   simp at g;rcases g with g | g
   ·rw [Y4c hT g] at i;exact l _ _ _ _ _ g i
   ·split at g
    ·rename_i a;rw [Y4c hT g] at i;obtain ⟨x, A, k2⟩ := l _ _ _ _ _ g i;exact ⟨(x, ()), ⟨_, [], [], [], by simp [Ty.sz], rfl, A, rfl, rfl⟩, k2, trivial⟩
    ·simp at g
  | cons q ps =>
   simp only at g;split at g
   ·rename_i a b;simp at g;obtain ⟨g, B⟩ := g;rw [Y4c hT g] at i;obtain ⟨x, A, k2⟩ := l _ _ _ _ _ g i;simp [Ty.sz] at hl;obtain ⟨y, C, D⟩ := Y80 hT l (q :: ps) b (off + a.sz) B om (fun p z => hp p (X3 _ z));refine ⟨(x, y), ⟨_, _, [], [], ?_, rfl, A, C⟩, k2, D⟩;simp [Ty.sz];rw [List.take_add, List.drop_drop]
   ·simp at g
theorem Y76 {α m : Type} {g : α -> Option m} : ∀ {l : List α} {r : List m}, l.mapM g = some r -> ∀ a ∈ l, ∃ b, g a = some b
 | [], r, h, a, i => by simp at i
 | a0 :: l, r, h, a, i => by
  simp only [X2s, Option.pure_def, Option.bind_eq_bind, Xt] at h;obtain ⟨b, p, r', j, _⟩ := h;rcases Xr.1 i with rfl | i
  ·exact ⟨b, p⟩
  ·exact Y76 j a i
theorem Y8u {e : TypeId} {t : Ty} {a : Addr} (q : Nat) (h : ∀ i, i < q -> ∃ cs x, cs.length = t.sz /\ (∀ j, j < t.sz -> w.cell? ((a.add (i * t.sz)).add j) = cs[j]?) /\ Rep (fun b => b < w.heap.size) w t .ro cs x [] /\ Wf t x) (C : 0 < t.sz) :
  ∀ n, n <= q -> ∃ (xs : List Value) (x : List t.D), x.length = n /\ El (Rep (fun b => b < w.heap.size) w t .ro) t.sz xs x [] /\ (∀ y ∈ x, Wf t y) /\ ∀ j u, xs[j]? = some u -> a.block < w.heap.size /\ w.cell? (a.add j) = some u
 | 0, _ => ⟨[], [], rfl, ⟨rfl, rfl⟩, sm, sm⟩
 | n + 1, hn => by
  obtain ⟨xs, x, z, A, F, G⟩ := Y8u (e := e) q h C n om;obtain ⟨cs, y, D, k2, E, L⟩ := h n om;refine ⟨xs ++ cs, x ++ [y], by simp [z], ?_, ?_, ?_⟩
  ·exact El.append A ⟨cs, [], [], [], sm, D, rfl, E, rfl, rfl⟩
  ·grind
  ·intro j u m;have p : xs.length = n * t.sz := by rw [A.len, z]
   by_cases I : j < xs.length
   ·grind
   ·rw [Xc om] at m;have B := (X5.1 m).1;have := k2 (j - xs.length) om;rw [m] at this;have g : (a.add (n * t.sz)).add (j - xs.length) = a.add j := by
     rw [Addr.add_add, <- p];congr 1;omega
    rw [g] at this;have l := X2t w _ this;rw [Addr.add_block] at l;exact ⟨l, this⟩
theorem Y77 (hT : TabOk P T) : ∀ (fuel f : Nat) (τ : Ty) (m : TypeId) (cs : List Value) (d : DataW H × List MemPlace), tyB T f τ m = true -> DataW.trod enc P w 0 spare held fuel m cs = some d -> ∃ x, Rep (fun b => b < w.heap.size) w τ .ro cs x [] /\ Wf τ x
 | 0, f, τ, m, cs, d, l, h => by simp [DataW.trod] at h
 | fuel + 1, 0, τ, m, cs, d, l, h => by simp [tyB] at l
 | fuel + 1, f + 1, τ, m, cs, d, l, h => by
  have U := Y4c hT l;simp [tyB] at l;split at l
  ·simp at l
  rename_i e he;simp at l;obtain ⟨V, l⟩ := l;obtain ⟨hm, O, L⟩ := Tab.te_mem he;have g := (hT e hm).desc L;rw [O] at g;rw [V] at g;unfold DataW.trod at h;have z : ∀ fs : Array Field, P.underlying m = some (.struct fs) -> (∀ (i off ft : Nat), e.fields[i]? = some (off, ft) -> ∃ f : Field, fs[i]? = some f /\ f.offset = off /\ f.type = ft) -> fsB (tyB T f) τ 0 e.fields = true -> ∃ x, Rep (fun b => b < w.heap.size) w τ .ro cs x [] /\ Wf τ x := by
   intro fs W hf M;rw [W] at h;simp only at h;split at h
   ·rename_i hl;rw [U] at hl;obtain ⟨r, hr, _⟩ := Xv.1 h;have q := Y76 hr;obtain ⟨x, C, k2⟩ := Y80 hT (Y77 hT fuel) (cs := cs) e.fields τ 0 M om (fun p hp => by
     obtain ⟨i, N⟩ := Xx hp;obtain ⟨fd, F, D, g3⟩ := hf i p.1 p.2 N;obtain ⟨d, g⟩ := q fd gr;rw [D, g3] at g;exact ⟨d, g⟩)
    rw [List.drop_zero, X2e om] at C;exact ⟨x, C, k2⟩
   ·simp at h
  cases τ with
  | int k =>
   simp only at g;rw [g] at h;rcases cs with _ | ⟨v, _ | ⟨v2, Z⟩⟩
   ·simp at h
   ·cases v <;> simp at h;obtain ⟨⟨rfl, G⟩, _⟩ := h;simp [Lit.wf] at G;exact ⟨_, ⟨rfl, rfl⟩, G⟩
   ·simp at h
  | bool =>
   simp only at g;rw [g] at h;rcases cs with _ | ⟨v, _ | ⟨v2, Z⟩⟩
   ·simp at h
   ·cases v <;> simp at h;exact ⟨_, ⟨rfl, rfl⟩, trivial⟩
   ·simp at h
  | str =>
   simp only at g;rw [g] at h;rcases cs with _ | ⟨v, _ | ⟨v2, Z⟩⟩
   ·simp at h
   ·cases v <;> simp at h;exact ⟨_, ⟨rfl, rfl⟩, h.1⟩
   ·simp at h
  | slice el t =>
   simp at l;obtain ⟨l, y⟩ := l;simp only at g;rw [g] at h;rcases cs with _ | ⟨v, _ | ⟨v2, Z⟩⟩
   ·simp at h
   ·cases v with
    | slice A len cap =>
     cases A with
     | none =>
      have : len = 0 /\ cap = 0 :=gr;obtain ⟨rfl, rfl⟩ := this;exact ⟨[], ⟨.slice none 0 0, [], [], [], rfl, rfl, ⟨rfl, rfl⟩, rfl, none, 0, rfl, Xd _, fun _ => rfl, sm⟩, sm, sm⟩
     | some a =>
      simp only at h;split at h
      case isFalse => simp at h
      rename_i hc;obtain ⟨_, h1, G⟩ := hc;obtain ⟨E, h3, _⟩ := Xt.1 h;have B := Y4c hT l;have q := Y76 h3;obtain ⟨xs, x, C, k2, k3, k4⟩ := Y8u (w := w) (e := el) (t := t) (a := a) len (fun i N => by
       obtain ⟨d, g⟩ := q i (X1v.2 N);obtain ⟨ci, I, g⟩ := Xt.1 g;obtain ⟨_, F, D⟩ := World.cells?_some I;rw [B] at F D;obtain ⟨x, X, Y⟩ := Y77 hT fuel f t el ci d l g;exact ⟨ci, x, F, D, X, Y⟩) y len (Xd _)
      refine ⟨x, ⟨.slice (some a) len cap, xs, [], [], rfl, rfl, k2, rfl, some a, cap, by rw [C], by rw [C]; exact h1, fun h => by simp at h, fun j u W => ?_⟩, by show x.length <= maxLen; omega, k3⟩;obtain ⟨X, Y⟩ := k4 j u W;exact ⟨a, rfl, X, Y⟩
    | _ => simp at h
   ·simp at h
  | unit => grind
  | pair a b => grind
end
open Go.RowKit Go.WideShapes
theorem Yeh {H : Type} {enc : TypeId × Value -> H} {spare : Nat -> Bool} {held : Bool} (hT : TabOk P T) {r : Go.Reach} {y f : Nat} {j : TypeId} (q : tyB T f τ j = true) (g : Value.okWide P w r y j v) {d : DataW H} {ps : List MemPlace} (h : DataW.Trod enc P w 0 spare held j v d ps) :
  ∃ x, RVRel (fun b => b < w.heap.size) w (.val τ x) v /\ Wf τ x := by
 obtain ⟨fuel, C⟩ := h;obtain ⟨x, z, A⟩ := Y77 hT _ _ _ _ _ _ q C;refine ⟨x, ⟨v.cells.toList, ?_, z⟩, A⟩;obtain ⟨e, B, rfl⟩ := Ydl q;obtain ⟨D, rfl, m⟩ := Tab.te_mem B;have h := (hT e D).desc m;cases i : e.ty with
 | int k => rw [i] at h; obtain ⟨n, rfl⟩ := okWide_int h g; rfl
 | bool => rw [i] at h; obtain ⟨n, rfl⟩ := okWide_bool h g; rfl
 | str => rw [i] at h; obtain ⟨n, rfl⟩ := okWide_string h g; rfl
 | slice E t => rw [i] at h; obtain ⟨a, l, c, rfl⟩ := okWide_slice h g; rfl
 | unit =>
  rw [i] at h;obtain ⟨fs, p, _⟩ := h;simp only [Value.okWide, p] at g;obtain ⟨cs, rfl, _⟩ := g;simp [mkV, Ty.isAgg, Value.cells]
 | pair a b =>
  rw [i] at h;obtain ⟨fs, p, _⟩ := h;simp only [Value.okWide, p] at g;obtain ⟨cs, rfl, _⟩ := g;simp [mkV, Ty.isAgg, Value.cells]
theorem Yei {fr : Lvl} {args : List RV} {g : List Value} (B : FnSpec P f [(.bool, fr)] args [⟨.bool, true⟩]) (C : RVRels (fun b => b < w.heap.size) w args g) :
  Calls P f g.toArray w fun e w' => e = .returned (.bool true) /\ Below w.heap.size w w' := by
 refine (B _ w g C).mono fun e w' ⟨m, bs, z, y, A, _⟩ => ⟨?_, y⟩;obtain ⟨x, D, l, i, b, E, j, e2, F, p, q⟩ := A;simp at j;obtain ⟨rfl, rfl⟩ := j;obtain ⟨_, rfl, rfl⟩ := q;have h : l = [.bool true] := by
  cases fr <;> exact p.1
 rw [z, e2, h];rfl
end Go.FP
