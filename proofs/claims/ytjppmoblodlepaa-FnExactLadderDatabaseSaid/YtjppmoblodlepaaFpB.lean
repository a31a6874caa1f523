/- How Go values lie in memory, and an evaluator of code with its soundness (part 2 of 7). Conditions: those that stand in each theorem; nothing is assumed of any program. -/
import Derived.Test.YtjppmoblodlepaaFpA
import Derived.Tactics
import Derived.WalkKit
import Derived.Laws.StructEq
import Derived.Laws.Cells
import Derived.Laws.MakeOwn
import Derived.Laws.OwnMore
import Derived.Laws.AppendOwnNone

set_option linter.unusedVariables false
set_option linter.unusedSimpArgs false
set_option linter.unnecessarySimpa false

namespace Go.FP
open Go.RowKit
variable {T : Tab} {S : Nat -> Prop} {w : World} {env : Env} {tmps : Array Value} {vs : Nat -> Value} {ps : Nat -> AV} {cs : Nat -> List Value} {bs : Nat -> Nat -> List Nat} {c : Cx} {s : St} {caps : FuncId -> List Ty} {sig : FuncId -> Option Sig} {orc : Orc} {ls : List Leaf} {x : Operand} {t : Ty} {v : Value} {d : Nat} {f : FuncId} {e : TypeId} {cells : List Value} {lf : Leaf} {n : Nat} {u : Value} {rs : List (Ty × Lvl)} {k : Kind} {av : AV} {sg : Sig} {τ : Ty} {w' : World} {xs : List (Σ t : Ty, t.D)} {te : TE}
theorem Y1c (c : Cx) (s : St) : ∀ (t : Ty) (cs : List Value) (ls : List Leaf) (g : List Value), constLeaves t cs = some (ls, g) ->
  ∃ m, cs = m ++ g /\ ls.length = m.length /\ ls.map Leaf.t = flat t /\ (∀ l ∈ ls, l.m.settled = true) /\ ∀ (l : Nat) (lf : Leaf) (u : Value), ls[l]? = some lf -> m[l]? = some u -> LeafV c s u lf
 | .unit, cs, ls, g, h => by
  simp [constLeaves] at h;obtain ⟨rfl, rfl⟩ := h;exact ⟨[], rfl, rfl, rfl, sm, sm⟩
 | .pair a b, cs, ls, g, h => by
  simp [constLeaves] at h;cases p : constLeaves a cs with
  | none => rw [p] at h; simp at h
  | some q =>
   obtain ⟨x, r⟩ := q;rw [p] at h;simp only at h;cases z : constLeaves b r with
   | none => rw [z] at h; simp at h
   | some q =>
    obtain ⟨y, r'⟩ := q;rw [z] at h;simp at h;obtain ⟨rfl, rfl⟩ := h;obtain ⟨A, C, I, E, L, N⟩ := Y1c c s a cs x r p;obtain ⟨B, D, l2, F, M, k2⟩ := Y1c c s b r y r' z;refine ⟨A ++ B, by rw [C, D, X4], by simp [I, l2], by rw [List.map_append, E, F]; rfl, fun l i => ?_, fun l lf u i j => ?_⟩
    ·rcases X6.1 i with i | i
     ·exact L l i
     ·exact M l i
    ·grind
 | .int k, cs, ls, g, h => by
  unfold constLeaves at h;split at h
  ·split at h
   ·rename_i G;subst G;simp at h;obtain ⟨rfl, rfl⟩ := h;refine ⟨[_], rfl, rfl, rfl, by simp [Mode.settled], fun l lf u i j => ?_⟩;cases l with
    | zero => simp only [Xc, X0] at i j; subst i; subst j; exact ⟨⟨rfl, rfl⟩, trivial⟩
    | succ l => simp at i
   ·simp at h
  ·simp at h
 | .bool, cs, ls, g, h => by
  unfold constLeaves at h;split at h
  ·simp at h;obtain ⟨rfl, rfl⟩ := h;refine ⟨[_], rfl, rfl, rfl, by simp [Mode.settled], fun l lf u i j => ?_⟩;cases l with
   | zero => simp only [Xc, X0] at i j; subst i; subst j; exact ⟨⟨rfl, rfl⟩, trivial⟩
   | succ l => simp at i
  ·simp at h
 | .str, cs, ls, g, h => by
  unfold constLeaves at h;split at h
  ·simp at h;obtain ⟨rfl, rfl⟩ := h;refine ⟨[_], rfl, rfl, rfl, by simp [Mode.settled], fun l lf u i j => ?_⟩;cases l with
   | zero => simp only [Xc, X0] at i j; subst i; subst j; exact ⟨⟨rfl, rfl⟩, trivial⟩
   | succ l => simp at i
  ·simp at h
 | .slice e t, cs, ls, g, h => by
  unfold constLeaves at h;split at h
  ·simp at h;obtain ⟨rfl, rfl⟩ := h;refine ⟨[_], rfl, rfl, rfl, by simp [Mode.settled], fun l lf u i j => ?_⟩;cases l with
   | zero => simp only [Xc, X0] at i j; subst i; subst j; exact ⟨Rep.zero (RoS c s) s.w (.slice e t) .dp, trivial⟩
   | succ l => simp at i
  ·simp at h
theorem Y21 : ∀ (s n : Nat) (ls : List Leaf), (borrowFrom s n ls).length = ls.length
 | s, n, [] => rfl
 | s, n, l :: ls => by simp [borrowFrom, Y21 s (n + 1) ls]
theorem Y1h : ∀ (s n : Nat) (ls : List Leaf) (l : Nat), (borrowFrom s n ls)[l]? = (ls[l]?).map fun lf => if lf.m.own then ⟨lf.t, lf.x, .bor s (n + l) []⟩ else lf
 | s, n, [], l => by simp [borrowFrom]
 | s, n, l0 :: ls, 0 => by simp [borrowFrom]
 | s, n, l0 :: ls, l + 1 => by simp [borrowFrom, Y1h s (n + 1) ls l, X29, Nat.add_comm 1 l]
theorem Y62 {r l : Nat} (i : s.env r = .con k ls) (j : ls[l]? = some lf) (q : (s.cs r)[l]? = some u) (h : LeafRel c s r l u lf) :
  (if lf.m.own then (⟨lf.t, lf.x, .bor r l []⟩ : Leaf) else lf).m.own = false /\ Held c s u (if lf.m.own then ⟨lf.t, lf.x, .bor r l []⟩ else lf) := by
 by_cases b : lf.m.own = true
 ·rw [X3 b];refine ⟨rfl, ?_, ⟨lf, u, ⟨by rw [i]; simp only [AV.leaf?]; rw [Y1]; exact j, b, q⟩, fun _ => ⟨lf.m, rfl, rfl⟩⟩, fun _ _ p => by simp at p⟩;obtain ⟨t, x, m⟩ := lf;cases m with
  | at_ lv => exact h.rep.ro
  | bor _ _ _ => simp [Mode.own] at b
  | dead => simp [Mode.own] at b
 ·rw [X5 b];have g : lf.m.own = false := by simpa using b
  exact ⟨g, (h.held g).2⟩
abbrev SS (env : Env) (ps : Nat -> AV) (tmps : Array Value) (vs : Nat -> Value) (w : World) (cs : Nat -> List Value) (bs : Nat -> Nat -> List Nat) : St := ⟨ovl env ps, ovlT tmps vs, w, cs, bs⟩
def evT (tmps : Array Value) : Operand -> Value
 | .tmp t => tmps.getD t undef
 | .const v => v
 | .global g => .pointer (some ⟨g, 0, none⟩)
 | .func f => .func (.func f) #[] #[]
theorem Y4 (a : Act) : a.eval = evT a.tmps := by
 funext x;cases x <;> rfl
theorem KCells.noBox {j : List Nat} (h : KCells c w j k v cells) (g : (∀ e, k ≠ .box e) /\ ∀ i n b, k ≠ .tupB i n b) : KCells c w [] k v cells := by
 cases k with
 | val => exact ⟨h.1, rfl⟩
 | agg => exact ⟨h.1, rfl⟩
 | tup b => exact ⟨rfl, h.2⟩
 | box e => exact absurd rfl (g.1 e)
 | tupB i n b => exact absurd rfl (g.2 i n b)
theorem Ye (E : env.length = tmps.size) (h : Rel c (SS env ps tmps vs w cs bs)) (ty : Option Ty) (x : Operand) :
  ∃ cells, ValC c (SS env ps tmps vs w cs bs) (rd ty env x) (evT tmps x) cells := by
 cases x with
 | tmp t =>
  by_cases M : t < env.length
  ·have N : t < tmps.size := E ▸ M;have j := h.av t;have I : (SS env ps tmps vs w cs bs).env t = get env t := Y7 M;have V : (SS env ps tmps vs w cs bs).tm t = tmps.getD t undef := X3 N;rw [I, V] at j;have con : ∀ k ls, get env t = .con k ls -> ((∀ e, k ≠ .box e) /\ ∀ i n U, k ≠ .tupB i n U) -> ∃ cells, ValC c (SS env ps tmps vs w cs bs) (.con k (borrowFrom t 0 ls)) (tmps.getD t undef) cells := by
    intro k ls m hb;rw [m] at j;obtain ⟨G, W, Y, Z⟩ := j;refine ⟨_, G.noBox hb, by rw [Y21]; exact W, fun l lf u y z => ?_⟩;rw [Y1, Y1h, Xx] at y;obtain ⟨O, D, rfl⟩ := Xt.1 y;have := Y62 (c := c) (s := SS env ps tmps vs w cs bs) (by rw [I, m]) D z (Z l O u (by rw [Y1]; exact D) z);exact LeafV.of_held this.1 this.2
   simp only [rd, evT];cases m : get env t with
   | con k ls =>
    cases k with
    | val => exact con _ _ m sm
    | agg => exact con _ _ m sm
    | tup U => exact con _ _ m sm
    | tupB i n U => exact ⟨[], trivial⟩
    | box e =>
     rw [m] at j;obtain ⟨⟨B, G, W, Y⟩, _⟩ := j;exact ⟨[], e, ls, B, by rw [I, m], by rw [V]; exact G, G⟩
   | undef => exact ⟨[], trivial⟩
   | skip => rw [m] at j; exact ⟨[], j.1⟩
   | path r off => rw [m] at j; exact ⟨[], j.2⟩
   | eptr ls wr => rw [m] at j; exact ⟨[], j.2⟩
   | clo f caps => rw [m] at j; exact ⟨[], j.2⟩
   | cloR f xs => rw [m] at j; exact ⟨[], j.2⟩
   | fptr f caps => rw [m] at j; exact ⟨[], j.2⟩
   | cloS f caps => rw [m] at j; exact ⟨[], j.2⟩
   | grow _ _ _ _ _ => exact ⟨[], trivial⟩
   | sel _ _ _ _ _ _ _ => exact ⟨[], trivial⟩
   | part _ _ _ _ => exact ⟨[], trivial⟩
   | eown _ => exact ⟨[], trivial⟩
   | junk => exact ⟨[], trivial⟩
  ·have : get env t = .undef := Y1o _ _ (X1y M);simp only [rd, this];exact ⟨[], trivial⟩
 | const v =>
  have C : ∃ cells, ValC c (SS env ps tmps vs w cs bs) (constAV ty v) v cells := by
   unfold constAV;cases ty with
   | none => exact ⟨[], trivial⟩
   | some t =>
    simp only;cases hc : constLeaves t v.cells.toList with
    | none => exact ⟨[], trivial⟩
    | some q =>
     obtain ⟨ls, F⟩ := q;cases F with
     | cons _ _ => exact ⟨[], trivial⟩
     | nil =>
      simp only;split
      ·rename_i p;have p : t.isAgg = Value.isAgg' v := by simpa using p
       obtain ⟨c0, e, l, _, _, k⟩ := Y1c c (SS env ps tmps vs w cs bs) t _ _ _ hc;rw [Xg] at e;subst e;refine ⟨v.cells.toList, ?_, l, fun l lf u y z => k l lf u (by rw [<- Y1]; exact y) z⟩;cases v with
       | agg X =>
        have : t.isAgg = true := p;rw [this];exact ⟨by simp [Value.cells], rfl⟩
       | _ =>
        have : t.isAgg = false := p;rw [this];exact ⟨rfl, rfl⟩
      ·exact ⟨[], trivial⟩
  have A : ∀ lf : Leaf, LeafV c (SS env ps tmps vs w cs bs) v lf -> ∃ cells, ValC c (SS env ps tmps vs w cs bs) (.con .val [lf]) v cells := by
   intro lf L;refine ⟨[v], ⟨rfl, rfl⟩, rfl, fun l lf' u y z => ?_⟩;rw [Y1] at y;cases l with
   | zero => simp only [Xc, X0] at y z; subst y; subst z; exact L
   | succ l => simp at y
  simp only [rd, evT];cases v with
  | int k n => exact A _ ⟨⟨rfl, rfl⟩, trivial⟩
  | bool b => exact A _ ⟨⟨rfl, rfl⟩, trivial⟩
  | string s => exact A _ ⟨⟨rfl, rfl⟩, trivial⟩
  | _ => exact C
 | func f => exact ⟨[], [], rfl, rfl⟩
 | global g => exact ⟨[], trivial⟩
theorem Y5u (h : RP c env tmps w ps vs) (ty : Option Ty) (x : Operand) : (∀ q ∈ (rd ty env x).refs, q.1 < env.length) /\ (∀ q ∈ (rd ty env x).ptrs, q < env.length) := by
 obtain ⟨_, _, _, _, C⟩ := h;cases x with
 | tmp t =>
  by_cases y : t < env.length
  ·have := C t;rw [Y7 y] at this;have bor : ∀ ls : List Leaf, (∀ q ∈ ls.flatMap Leaf.refs, q.1 < env.length) -> ∀ q ∈ (borrowFrom t 0 ls).flatMap Leaf.refs, q.1 < env.length := by
    intro ls B q j;simp only [Xi] at j;obtain ⟨lf, I, j⟩ := j;obtain ⟨l, G⟩ := Xz I;rw [Y1h] at G;obtain ⟨E, A, rfl⟩ := Xt.1 G;split at j
    ·simp only [Leaf.refs, Xb] at j;rw [j]; exact y
    ·exact B q (by simp only [Xi]; exact ⟨E, Xa A, j⟩)
   simp only [rd];cases F : get env t with
   | con k ls =>
    rw [F] at this;cases k with
    | val => exact ⟨bor ls this.1, by simp [AV.ptrs]⟩
    | agg => exact ⟨bor ls this.1, by simp [AV.ptrs]⟩
    | tup L => exact ⟨bor ls this.1, by simp [AV.ptrs]⟩
    | box e => exact ⟨by simp [AV.refs], by simp [AV.ptrs]; exact y⟩
    | tupB i n L => exact ⟨by simp [AV.refs], by simp [AV.ptrs]⟩
   | grow _ _ _ _ _ => exact ⟨by simp [AV.refs], by simp [AV.ptrs]⟩
   | sel _ _ _ _ _ _ _ => exact ⟨by simp [AV.refs], by simp [AV.ptrs]⟩
   | part _ _ _ _ => exact ⟨by simp [AV.refs], by simp [AV.ptrs]⟩
   | eown _ => exact ⟨by simp [AV.refs], by simp [AV.ptrs]⟩
   | junk => exact ⟨by simp [AV.refs], by simp [AV.ptrs]⟩
   | _ => rw [F] at this; exact this
  ·have : get env t = .undef := Y1o _ _ (X1y y);simp only [rd, this];exact ⟨by simp [AV.refs], by simp [AV.ptrs]⟩
 | const v =>
  have m : ∀ av, av = constAV ty v -> (∀ q ∈ av.refs, q.1 < env.length) /\ (∀ q ∈ av.ptrs, q < env.length) := by
   intro av b;unfold constAV at b;cases ty with
   | none => rw [b]; exact ⟨by simp [AV.refs], by simp [AV.ptrs]⟩
   | some t =>
    simp only at b;cases z : constLeaves t v.cells.toList with
    | none => rw [z] at b; rw [b]; exact ⟨by simp [AV.refs], by simp [AV.ptrs]⟩
    | some q =>
     obtain ⟨ls, p⟩ := q;rw [z] at b;cases p with
     | cons _ _ => rw [b]; exact ⟨by simp [AV.refs], by simp [AV.ptrs]⟩
     | nil =>
      simp only at b;obtain ⟨_, _, _, _, D, _⟩ := Y1c c ⟨noP, noV, w, fun _ => [], fun _ _ => []⟩ t _ _ _ z;split at b
      ·rw [b];have := Settled.refs (v := mkCon t.isAgg ls) (.inr ⟨_, _, rfl, D⟩);rw [this.1, this.2];exact ⟨sm, sm⟩
      ·rw [b]; exact ⟨by simp [AV.refs], by simp [AV.ptrs]⟩
  simp only [rd];cases v <;> first | (refine ⟨?_, ?_⟩ <;> simp [AV.refs, AV.ptrs, Leaf.refs]; done) | exact m _ rfl
 | func f => exact ⟨by simp [rd, AV.refs], by simp [rd, AV.ptrs]⟩
 | global g => exact ⟨by simp [rd, AV.refs], by simp [rd, AV.ptrs]⟩
theorem Yb9 {r j : Nat} (b : r < env.length) (g : ∀ r, Settled (ps r)) : freezeE r j (ovl env ps) = ovl (freeze r j env) ps := by
 unfold freezeE freeze;rw [Y7 b];cases h : (get env r).leaf? j with
 | none => rfl
 | some l =>
  simp only;split
  ·have := Y2l (freezeG r j) env ps g;have e : (fun r' => (ovl env ps r').chg (freezeG r j)) = ovl (chgEnv (freezeG r j) env) ps := this;rw [e, Y14 (by rw [Y6]; exact b)];congr 1;rw [Y11]
  ·rfl
theorem Y19 : ∀ (ls : List Leaf) {env : Env} {ps : Nat -> AV}, (∀ l ∈ ls, ∀ q ∈ l.refs, q.1 < env.length) -> (∀ r, Settled (ps r)) -> freezeAllE ls (ovl env ps) = ovl (freezeAll ls env) ps
 | [], env, ps, _, _ => rfl
 | l :: ls, env, ps, hl, hs => by
  obtain ⟨t, x, m⟩ := l;cases m with
  | bor r j p =>
   simp [freezeAll, freezeAllE];rw [Yb9 (hl _ Xo (r, j) (by simp [Leaf.refs])) hs];exact Y19 ls (fun l b q g => by rw [(Y3e r j env).2]; exact hl l (X2 _ b) q g) hs
  | at_ lv => exact Y19 ls (fun l b => hl l (X2 _ b)) hs
  | dead => exact Y19 ls (fun l b => hl l (X2 _ b)) hs
theorem Y3f {j : Nat} {l : Leaf} (h : l.refs = []) : ∀ q ∈ (setAt ls j l).flatMap Leaf.refs, q ∈ ls.flatMap Leaf.refs := by
 intro q b;rw [Y8] at b;simp at b ⊢;obtain ⟨lf, g, b⟩ := b;rcases List.mem_or_eq_of_mem_set g with g | rfl
 ·grind
 ·grind
theorem Y8z (r j : Nat) (E : Nat -> AV) (r' : Nat) : (∀ q ∈ (freezeE r j E r').refs, q ∈ (E r').refs) /\ (∀ q ∈ (freezeE r j E r').ptrs, q ∈ (E r').ptrs) := by
 unfold freezeE;cases m : (E r).leaf? j with
 | none => grind
 | some l =>
  simp only;split
  ·have g := Yi (Y8y r j);simp only [upd];split
   ·rename_i i;subst i;have := g (E r');cases b : (E r').chg (freezeG r' j) with
    | con k ls =>
     rw [b] at this;exact ⟨fun q h => this.1 q (Y3f rfl q h), by simp [AV.setLeaf, AV.ptrs]⟩
    | _ => rw [b] at this; exact this
   ·grind
  ·grind
theorem Y10 : ∀ (ls : List Leaf) (E : Nat -> AV) (r' : Nat), (∀ q ∈ (freezeAllE ls E r').refs, q ∈ (E r').refs) /\ (∀ q ∈ (freezeAllE ls E r').ptrs, q ∈ (E r').ptrs)
 | [], E, r' => ⟨fun q h => h, fun q h => h⟩
 | l :: ls, E, r' => by
  obtain ⟨t, x, m⟩ := l;cases m with
  | bor r j p =>
   have g := Y10 ls (freezeE r j E) r';have i := Y8z r j E r';exact ⟨fun q b => i.1 q (g.1 q b), fun q b => i.2 q (g.2 q b)⟩
  | at_ lv => exact Y10 ls E r'
  | dead => exact Y10 ls E r'
theorem RP.freezeAll (h : RP c env tmps w ps vs) (ls : List Leaf) (p : ∀ l ∈ ls, ∀ q ∈ l.refs, q.1 < env.length) (y : ∀ r, Settled (ps r)) : RP c (freezeAll ls env) tmps w ps vs := by
 obtain ⟨b, cs, bs, j, i⟩ := h;obtain ⟨bs', m, _, _⟩ := j.freezeAll_ ls;have e := Y19 ls p y;refine ⟨by rw [(Yd ls env).2]; exact b, _, _, Rel.congr m e rfl, fun r => ?_⟩;rw [(Yd ls env).2, <- e];have := Y10 ls (ovl env ps) r;exact ⟨fun q g => (i r).1 q (this.1 q g), fun q g => (i r).2 q (this.2 q g)⟩
theorem Yaf {env env' : Env} (h : RP c env tmps w ps vs) (hs : ∀ r, Settled (ps r)) {ty : Option Ty} (b : takeIn0 ty env x = some (env', av)) (hn : env.length <= n) (hp : ps n = .undef) :
  env'.length = env.length /\ RP c env' tmps w (upd ps n av) (upd vs n (evT tmps x)) := by
 have m : rd ty env x = av -> env' = env -> env'.length = env.length /\ RP c env' tmps w (upd ps n av) (upd vs n (evT tmps x)) := by
  intro M N;subst M; subst N;exact ⟨rfl, h.addVal hn hp (fun cs bs W => Ye h.len W ty x) (Y5u h ty x)⟩
 cases x with
 | const v => simp only [takeIn0, X0, X10] at b; exact m b.2 b.1.symm
 | func f => simp only [takeIn0, X0, X10] at b; exact m b.2 b.1.symm
 | global g => simp only [takeIn0, X0, X10] at b; exact m b.2 b.1.symm
 | tmp s =>
  simp only [takeIn0] at b;cases z : get env s with
  | con k ls =>
   rw [z] at b;simp only at b;split at b
   ·rename_i I;cases D : get (freezeAll ls env) s with
    | con k' y =>
     rw [D] at b;simp only at b;split at b
     ·rename_i G;obtain ⟨rfl, p⟩ := G;have p : ∀ l ∈ y, l.m.settled = true := by simpa using p
      simp only [X0, X10] at b;obtain ⟨X, rfl⟩ := b;have L : s < env.length := Yw z;have hls : ∀ l ∈ ls, ∀ q ∈ l.refs, q.1 < env.length := by
       intro l Y q V;obtain ⟨_, _, _, _, F⟩ := h;have := (F s).1;rw [Y7 L, z] at this;exact this q (by simp only [AV.refs, Xi]; exact ⟨l, Y, V⟩)
      have Z := h.freezeAll ls hls hs;have j : (freezeAll ls env).length = env.length := (Yd ls env).2;have C : s < (Go.FP.freezeAll ls env).length := by rw [j]; exact L
      have E : (Go.FP.freezeAll ls env).length <= n := by rw [j]; exact hn
      have hsn : s ≠ n := X1o (X19 L hn);generalize Go.FP.freezeAll ls env = env1 at *;have U : (∀ e, k' ≠ .box e) /\ ∀ i n sh, k' ≠ .tupB i n sh := by constructor <;> (intros; rintro rfl; simp [Kind.plain] at I)
      by_cases B : y.any (fun l => l.m.own) = true
      ·rw [X3 B] at X;subst X;refine ⟨by rw [Yh, j], ?_⟩;obtain ⟨A, cs, bs, W, F⟩ := Z;obtain ⟨hk2, hk3⟩ := W.killRoot_ s;have hEn : chgE (killG s) (ovl env1 ps) n = .undef := by simp only [chgE]; rw [Ym E, hp]; rfl
       have hEs : chgE (killG s) (ovl env1 ps) s = .con k' y := by simp only [chgE]; rw [Y7 C, D]; simp only [AV.chg, Y61 _ p]
       have h5 := hk2.move hsn (by show (chgE (killG s) (ovl env1 ps) n).quiet = true; rw [hEn]; rfl) hk3;simp only [hEs] at h5;have M : upd (upd (chgE (killG s) (ovl env1 ps)) s .undef) n (.con k' y) = ovl (killRoot s env1) (upd ps n (.con k' y)) := by
        rw [Yc (by rw [Yh]; exact E)];unfold killRoot;rw [Y14 (by rw [Y6]; exact C), Y2l _ _ _ hs]
       have N : upd (ovlT tmps vs) n (ovlT tmps vs s) = ovlT tmps (upd vs n (evT tmps (.tmp s))) := by
        rw [Y1b (A ▸ E)];congr 1;exact X3 (A ▸ C)
       refine ⟨by rw [Yh]; exact A, _, _, Rel.congr h5 M N, fun r => ?_⟩;rw [Yh, <- M];simp only [upd];split
       ·have := Settled.refs (v := .con k' y) (.inr ⟨_, _, rfl, p⟩);rw [this.1, this.2];exact ⟨sm, sm⟩
       ·split
        ·exact ⟨by simp [AV.refs], by simp [AV.ptrs]⟩
        ·have := Yi (Y1l s) (ovl env1 ps r);exact ⟨fun q V => (F r).1 q (this.1 q V), fun q V => (F r).2 q (this.2 q V)⟩
      ·rw [X5 B] at X;subst X;refine ⟨j, Z.addVal E hp (fun cs bs W => ?_) ?_⟩
       ·have O := W.av s;have M : ovl env1 ps s = .con k' y := by rw [Y7 C, D]
        have N : ovlT tmps vs s = evT tmps (.tmp s) := X3 (Z.len ▸ C);simp only [M, N] at O;obtain ⟨g1, g2, g3, g4⟩ := O;refine ⟨_, g1.noBox U, g2, fun l lf u Y hu => ?_⟩;have := g4 l lf u Y hu;have ho : lf.m.own = false := by
         cases hb : lf.m.own with
         | false => rfl
         | true => exact absurd (X1m.2 ⟨lf, Y9 Y, hb⟩) B
        exact LeafV.of_held ho (this.held ho).2
       ·have := Settled.refs (v := .con k' y) (.inr ⟨_, _, rfl, p⟩);rw [this.1, this.2];exact ⟨sm, sm⟩
     ·simp at b
    | _ => rw [D] at b; simp at b
   ·simp at b
  | undef => rw [z] at b; simp at b
  | grow _ _ _ _ _ => rw [z] at b; simp at b
  | sel _ _ _ _ _ _ _ => rw [z] at b; simp at b
  | part _ _ _ _ => rw [z] at b; simp at b
  | eown _ => rw [z] at b; simp at b
  | junk => rw [z] at b; simp at b
  | _ =>
   rw [z] at b;simp only [X0, X10] at b;exact m (by simp only [rd, z]; exact b.2) b.1.symm
theorem Y6w {ty : Option Ty} {env env' : Env} (i : takeIn0 ty env x = some (env', .con k ls)) : ∀ l ∈ ls, l.m.settled = true := by
 have con : ∀ v, rd ty env (.const v) = .con k ls -> ∀ l ∈ ls, l.m.settled = true := by
  intro v b;have h : constAV ty v = .con k ls -> ∀ l ∈ ls, l.m.settled = true := by
   intro b;unfold constAV at b;cases ty with
   | none => simp at b
   | some t =>
    simp only at b;cases p : constLeaves t v.cells.toList with
    | none => grind
    | some q =>
     obtain ⟨y, j⟩ := q;rw [p] at b;cases j with
     | cons _ _ => simp at b
     | nil =>
      simp only at b;obtain ⟨_, _, _, _, m, _⟩ := Y1c ⟨fun _ => False, 0, default, fun _ => default, fun _ => False, default, fun _ => default⟩ ⟨noP, noV, default, fun _ => [], fun _ _ => []⟩ t _ _ _ p;split at b
      ·simp [mkCon] at b;rw [<- b.2]; exact m
      ·simp at b
  simp [rd] at b;cases v <;> first | (simp at b; rw [<- b.2]; simp [Mode.settled]; done) | exact h b
 cases x with
 | const v => simp [takeIn0] at i; exact con v i.2
 | func f => simp [takeIn0, rd] at i
 | global g => simp [takeIn0, rd] at i
 | tmp s =>
  simp [takeIn0] at i;cases A : get env s with
  | con B z => grind
  | _ => grind
theorem RP.pull (h : RP c env tmps w ps vs) (U : ∀ r, Settled (ps r)) (s q : Nat) : RP c (pull s q env) tmps w ps vs /\ (Go.FP.pull s q env).length = env.length := by
 unfold Go.FP.pull;split
 ·rename_i t x r j y;split
  ·rename_i lp I;split
   ·rename_i lv N;split
    ·rename_i M;obtain ⟨B, l⟩ := M;have g : s < env.length := Y1g y;have A : r < env.length := Y1g I;obtain ⟨k, ls, G⟩ : ∃ k ls, get env s = .con k ls := by
      cases V : get env s with
      | con k ls => exact ⟨k, ls, rfl⟩
      | _ => rw [V] at y; simp [AV.leaf?] at y
     obtain ⟨i, cs, bs, C, m⟩ := h;have C : Rel c (SS env ps tmps vs w cs bs) := C;obtain ⟨bs', L, F⟩ := C.pull_ (s0 := s) (r := r) (j := j) (q := q) (k := k) (ls := ls) (t := t) (x := x) (lv := lv) (lp := lp) (by show ovl env ps s = _; rw [Y7 g]; exact G) (by rw [G] at y; exact y) l (by show (ovl env ps r).leaf? j = _; rw [Y7 A]; exact I) N B;have b : (killPlace r j env).length = env.length := Y6 _ _;have e : pullE r j s q ⟨lp.t, lp.x, .dead⟩ ⟨t, x, .at_ lv⟩ (ovl env ps) = ovl (put (put (killPlace r j env) r ((get (killPlace r j env) r).setLeaf j ⟨lp.t, lp.x, .dead⟩)) s ((get (put (killPlace r j env) r ((get (killPlace r j env) r).setLeaf j ⟨lp.t, lp.x, .dead⟩)) s).setLeaf q ⟨t, x, .at_ lv⟩)) ps := by
      unfold pullE;rw [Y14 (by rw [Y5, b]; exact g), Y14 gr, Yx, X5 (fun h => l h.1)];have E : ∀ p, p < env.length -> chgE (killPG r j) (ovl env ps) p = get (killPlace r j env) p := fun p O => by
       show (ovl env ps p).chg _ = _;rw [Y7 O]; unfold killPlace; rw [Y11]
      rw [E r A, E s g];congr 2;exact Y2l _ _ _ U
     refine ⟨⟨by rw [Y5, Y5, b]; exact i, cs, bs', Rel.congr L e rfl, fun p => ?_⟩, by rw [Y5, Y5, b]⟩;rw [Y5, Y5, b, <- e];exact ⟨fun z D => (m p).1 z ((F p).1 z D), fun z D => (m p).2 z ((F p).2 z D)⟩
    ·exact ⟨h, rfl⟩
   ·exact ⟨h, rfl⟩
  ·exact ⟨h, rfl⟩
 ·exact ⟨h, rfl⟩
theorem RP.pulls (h : RP c env tmps w ps vs) (b : ∀ r, Settled (ps r)) (s : Nat) : ∀ n, RP c (pulls s n env) tmps w ps vs /\ (Go.FP.pulls s n env).length = env.length
 | 0 => ⟨h, rfl⟩
 | n + 1 => by
  obtain ⟨g, i⟩ := RP.pulls h b s n;obtain ⟨j, l⟩ := g.pull b s n;exact ⟨j, l.trans i⟩
theorem RP.pullAll (h : RP c env tmps w ps vs) (b : ∀ r, Settled (ps r)) (x : Operand) : RP c (pullAll x env) tmps w ps vs /\ (Go.FP.pullAll x env).length = env.length := by
 unfold Go.FP.pullAll;split
 ·split
  ·split
   ·exact h.pulls b _ _
   ·exact ⟨h, rfl⟩
  ·exact ⟨h, rfl⟩
 ·exact ⟨h, rfl⟩
theorem Yy {env env' : Env} (h : RP c env tmps w ps vs) (b : ∀ r, Settled (ps r)) {ty : Option Ty} (p : takeIn ty env x = some (env', av)) (q : env.length <= n) (m : ps n = .undef) :
  env'.length = env.length /\ RP c env' tmps w (upd ps n av) (upd vs n (evT tmps x)) := by
 obtain ⟨g, i⟩ := h.pullAll b x;obtain ⟨j, l⟩ := Yaf g b p (n := n) gr m;exact ⟨j.trans i, l⟩
theorem Ys {ty : Option Ty} {env env' : Env} (b : takeIn ty env x = some (env', .con k ls)) : ∀ l ∈ ls, l.m.settled = true := Y6w b
theorem El.pick {α D : Type} {P : List Value -> α -> List Nat -> Prop} {Q : List Value -> D -> List Nat -> Prop} : ∀ {l : List α} {cells : List Value} {bs : List Nat} (off : Nat) (ix : List Int) (us : List Value) (ys : List D), El P 1 cells l bs -> ix.Pairwise (· < ·) -> (∀ i ∈ ix, (off : Int) <= i /\ i < (off : Int) + l.length) -> us.length = ix.length -> ys.length = ix.length ->
  (∀ (k : Nat) (i : Int), ix[k]? = some i -> us[k]? = cells[(i - off).toNat]?) -> (∀ (k : Nat) (u : Value) (y : D), us[k]? = some u -> ys[k]? = some y -> ∀ x b, P [u] x b -> Q [u] y b) -> ∃ g, El Q 1 us ys g /\ g.Sublist bs
 | l, cells, bs, off, [], us, ys, h, hs, hr, hu, hy, hc, hq => by
  obtain rfl : us = [] := Xm.1 hu;obtain rfl : ys = [] := Xm.1 hy;exact ⟨[], ⟨rfl, rfl⟩, List.nil_sublist _⟩
 | [], cells, bs, off, i :: ix, us, ys, h, hs, hr, hu, hy, hc, hq => by
  have := hr i sm;simp at this;omega
 | x :: l, cells, bs, off, i :: ix, us, ys, ⟨c, xs', b, bs', e, lc, eb, p, t⟩, hs, hr, hu, hy, hc, hq => by
  obtain ⟨E, rfl⟩ := X1h.1 lc;subst e;subst eb;rw [X1g] at hs;have N := hr i sm;by_cases F : i = (off : Int)
  ·match us, ys, hu, hy with
   | u :: us, y :: ys, hu, hy =>
    have B : u = E := by
     have := hc 0 i rfl;rw [F, show (((off : Int) - off).toNat) = 0 by omega] at this;simpa using this
    subst B;have I := hq 0 u y rfl rfl x b p;obtain ⟨g, C, k2⟩ := El.pick (off + 1) ix us ys t hs.2 (fun j m => by
     have A := hs.1 j m;have q := hr j (by simp [m]);simp at q;omega) (by simpa using hu) (by simpa using hy) (fun k j z => by
     have := hc (k + 1) j z;have A := hs.1 j (Xa z);rw [X1s] at this;rw [this, show (j - (off : Int)).toNat = (j - ((off + 1 : Nat) : Int)).toNat + 1 by omega];rfl) (fun k L M A q => hq (k + 1) L M A q)
    exact ⟨b ++ g, ⟨[u], us, b, g, rfl, rfl, rfl, I, C⟩, X1v (X21 _) k2⟩
  ·obtain ⟨g, C, k2⟩ := El.pick (off + 1) (i :: ix) us ys t (X1g.2 hs) (fun j m => by
    have q := hr j m;simp at q;have : i <= j :=gr;omega) hu hy (fun k j z => by
    have G := hc k j z;have : i <= j := by
     rcases Xw.1 (Xa z) with rfl | m
     ·grind
     ·grind
    rw [G, show (j - (off : Int)).toNat = (j - ((off + 1 : Nat) : Int)).toNat + 1 by omega];rfl) hq
   exact ⟨g, C, k2.trans (List.sublist_append_right _ _)⟩
theorem RP.pullN (h : RP c env tmps w ps vs) (b : ∀ r, Settled (ps r)) (s : Nat) : RP c (pullN s env) tmps w ps vs /\ (Go.FP.pullN s env).length = env.length := ⟨h, rfl⟩
theorem RP.pullRes (g : ∀ r, Settled (ps r)) : ∀ (rs : List (Ty × Lvl)) (b : List ResultVar) {env : Env}, RP c env tmps w ps vs -> RP c (pullRes rs b env) tmps w ps vs
 | [], b, env, h => by cases b <;> exact h
 | p :: rs, [], env, h => h
 | (t, fr) :: rs, v :: b, env, h => by
  refine RP.pullRes g rs b ?_;split
  ·exact (h.pullN g _).1
  ·exact h
def zeroVal (t : Ty) : Value := if t.isAgg then .agg (zeroCells t).toArray else (zeroCells t).headD undef
def EqFs (P : Program) : List Field -> List Ty -> Nat -> Prop
 | [], [], _ => True
 | f :: fs, t :: ts, off => (f.name ≠ "_" /\ f.offset = off /\ (∀ w, (isAgg f.type).run P w = .ok false w) /\ match t with
   | .int k => P.underlying f.type = some (.int k)
   | .bool => P.underlying f.type = some .bool
   | .str => P.underlying f.type = some .string
   | _ => False) /\ EqFs P fs ts (off + 1)
 | _, _, _ => False
structure TEOk (P : Program) (e : TE) : Prop where
 func : e.fn = true -> ∃ i z ps rs v, P.info? e.id = some i /\ i.size = 1 /\ i.zero = some z /\ z.oneCell' = true /\ P.underlying e.id = some (.func ps rs v)
 info : e.fn = false -> ∃ i, P.info? e.id = some i /\ i.size = e.ty.sz /\ i.bytes = e.bytes /\ i.zero = some (zeroVal e.ty)
 desc : e.fn = false -> match e.ty with
  | .int k => P.underlying e.id = some (.int k)
  | .bool => P.underlying e.id = some .bool
  | .str => P.underlying e.id = some .string
  | .slice el _ => P.underlying e.id = some (.slice el)
  | _ => ∃ fs, P.underlying e.id = some (.struct fs) /\ ∀ (i off ft : Nat), e.fields[i]? = some (off, ft) -> ∃ f : Field, fs[i]? = some f /\ f.offset = off /\ f.type = ft
 places : e.fn = false -> e.ty.isAgg = true -> ∃ (fs : Array Field) (pl : List (Nat × Nat)), P.underlying e.id = some (.struct fs) /\ fs.toList.mapM (fun f => (P.info? f.type).map fun i => (f.offset, i.size)) = some pl
 eqs : e.eq = true -> (P.eqGuardType P.depth e.id = false /\ P.stoodInHeld e.id = false) /\ ∃ fs : Array Field, P.underlying e.id = some (.struct fs) /\ EqFs P fs.toList (flat e.ty) 0
def TabOk (P : Program) (T : Tab) : Prop := ∀ e ∈ T, TEOk P e
theorem Tab.isFn_mem : ∀ {T : Tab} {t : TypeId}, T.isFn t = true -> ∃ e ∈ T, e.fn = true /\ e.id = t
 | [], t, h => by simp [Tab.isFn] at h
 | e0 :: T, t, h => by
  simp [Tab.isFn] at h;rcases h with h | h
  ·grind
  ·obtain ⟨e, b, g⟩ := Tab.isFn_mem h;exact ⟨e, X2 _ b, g⟩
theorem Tab.te_mem : ∀ {T : Tab} {t : TypeId} {e : TE}, T.te t = some e -> e ∈ T /\ (e.id = t /\ e.fn = false)
 | [], t, e, h => by simp [Tab.te] at h
 | e0 :: T, t, e, h => by
  unfold Tab.te at h;split at h
  ·grind
  ·have := Tab.te_mem h;exact ⟨X2 _ this.1, this.2⟩
theorem Tab.ty_te {t : TypeId} (h : T.ty t = some τ) : ∃ e, T.te t = some e /\ e.ty = τ := by
 unfold Tab.ty at h;split at h
 ·grind
 ·simp at h
section
variable {P : Program} {T : Tab} (hT : TabOk P T)
include hT
theorem TabOk.info {t : TypeId} (h : T.ty t = some τ) : ∃ i, P.info? t = some i /\ i.size = τ.sz /\ i.zero = some (zeroVal τ) := by
 obtain ⟨e, g, rfl⟩ := Tab.ty_te h;obtain ⟨j, rfl, b⟩ := Tab.te_mem g;obtain ⟨i, l, k2, _, m⟩ := (hT e j).info b;exact ⟨i, l, k2, m⟩
theorem TabOk.fn {t : TypeId} (h : T.isFn t = true) : ∃ i z ps rs v, P.info? t = some i /\ i.size = 1 /\ i.zero = some z /\ z.oneCell' = true /\ P.underlying t = some (.func ps rs v) := by
 obtain ⟨e, b, g, rfl⟩ := Tab.isFn_mem h;exact (hT e b).func g
theorem TabOk.agg {t : TypeId} (h : T.ty t = some τ) (w : World) : (isAgg t).run P w = .ok τ.isAgg w := by
 obtain ⟨e, l, rfl⟩ := Tab.ty_te h;obtain ⟨m, rfl, j⟩ := Tab.te_mem l;have := (hT e m).desc j;unfold isAgg;cases g : e.ty with
 | int k => rw [g] at this; simp [run_underlying this, Ty.isAgg]
 | bool => rw [g] at this; simp [run_underlying this, Ty.isAgg]
 | str => rw [g] at this; simp [run_underlying this, Ty.isAgg]
 | slice p τ => rw [g] at this; simp [run_underlying this, Ty.isAgg]
 | unit => rw [g] at this; obtain ⟨fs, i, _⟩ := this; simp [run_underlying i, Ty.isAgg]
 | pair a b => rw [g] at this; obtain ⟨fs, i, _⟩ := this; simp [run_underlying i, Ty.isAgg]
theorem TabOk.sizeOf {t : TypeId} (h : T.ty t = some τ) (w : World) : (sizeOf t).run P w = .ok τ.sz w := by
 obtain ⟨i, b, g, _⟩ := TabOk.info hT h;simp [Go.sizeOf, typeInfo, b, g]
theorem TabOk.zero {t : TypeId} (h : T.ty t = some τ) (w : World) : (zeroValue t).run P w = .ok (zeroVal τ) w := by
 obtain ⟨i, b, _, g⟩ := TabOk.info hT h;simp [zeroValue, typeInfo, b, g]
theorem TabOk.slice {t : TypeId} {g : TypeId} (h : T.ty t = some (.slice g τ)) : P.underlying t = some (.slice g) := by
 obtain ⟨e, i, l⟩ := Tab.ty_te h;obtain ⟨j, rfl, b⟩ := Tab.te_mem i;have := (hT e j).desc b;rw [l] at this;exact this
theorem TabOk.str {t : TypeId} (h : T.ty t = some .str) : P.underlying t = some .string := by
 obtain ⟨e, g, j⟩ := Tab.ty_te h;obtain ⟨i, rfl, b⟩ := Tab.te_mem g;have := (hT e i).desc b;rw [j] at this;exact this
theorem TabOk.int {t : TypeId} {k : IntKind} (h : T.ty t = some (.int k)) : P.underlying t = some (.int k) := by
 obtain ⟨e, g, j⟩ := Tab.ty_te h;obtain ⟨i, rfl, b⟩ := Tab.te_mem g;have := (hT e i).desc b;rw [j] at this;exact this
theorem TabOk.field {s : TypeId} {f off : Nat} (h : fieldAt T s f = some (off, τ)) : ∃ fs j, P.underlying s = some (.struct fs) /\ fs[f]? = some j /\ j.offset = off /\ T.ty j.type = some τ /\ τ.sz ≠ 0 := by
 unfold fieldAt at h;split at h
 ·rename_i e q;obtain ⟨p, rfl, l⟩ := Tab.te_mem q;split at h
  ·rename_i m z A;split at h
   ·rename_i t B;split at h
    ·simp at h
    ·rename_i i;simp at h;obtain ⟨rfl, rfl⟩ := h;have := (hT e p).desc l;cases g : e.ty with
     | int k => exact absurd (.inr (by rw [g]; rfl)) i
     | bool => exact absurd (.inr (by rw [g]; rfl)) i
     | str => exact absurd (.inr (by rw [g]; rfl)) i
     | slice y τ => exact absurd (.inr (by rw [g]; rfl)) i
     | unit => grind
     | pair a b => grind
   ·simp at h
  ·simp at h
 ·simp at h
theorem TabOk.elem {t : TypeId} (h : elemAt T t = some te) : T.ty t = some (.slice te.id te.ty) /\ P.underlying t = some (.slice te.id) /\ T.ty te.id = some te.ty /\ 0 < te.ty.sz /\ 0 < te.bytes /\ ∃ i, P.info? te.id = some i /\ i.size = te.ty.sz /\ i.bytes = te.bytes /\ i.zero = some (zeroVal te.ty) := by
 unfold elemAt at h;split at h
 ·rename_i e τ j;split at h
  ·rename_i y b;split at h
   ·rename_i q;simp at h;subst h;obtain ⟨l, rfl, g⟩ := Tab.te_mem b;obtain ⟨rfl, m, p⟩ := q;exact ⟨j, TabOk.slice hT j, by unfold Tab.ty; rw [b], m, p, (hT _ l).info g⟩
   ·simp at h
  ·simp at h
 ·simp at h
end
theorem RE.commit (h : RP c env tmps w (upd noP env.length av) vs) (b : d < env.length) : RE c (setD (some d) env av) (tmps.setIfInBounds d (vs env.length)) w := by
 have := h.commit (Xn _) b (fun r g => by rw [Y3 _ _ g]; exact .inl rfl);rw [Y0] at this;have e : upd (upd noP env.length av) env.length .undef = noP := by funext r; simp only [upd, noP]; split <;> rfl
 rw [e] at this;exact ⟨vs, this⟩
section
variable {P : Program} {o : Oper} {a : Act} {w : World} {R : Type} {K : Env -> Option R} {r : R} {next : Act -> World -> Prop} {Q : Exit -> Act -> World -> Prop} {c : Cx} {d : Nat}
def Next (c : Cx) (a : Act) (K : Env -> Option R) (r : R) (N : Nat) (next : Act -> World -> Prop) : Prop :=
 ∀ env' b w', K env' = some r -> RE c env' b.tmps w' -> env'.length = N -> b.defers = a.defers -> next b w'
theorem Y1e (b : Option Nat) (env : Env) (v : AV) : (setD b env v).length = env.length := by
 unfold setD;split
 ·split <;> simp [Y5, Y18]
 ·rfl
theorem fin {b : Env} {N : Nat} (g : o.dst = some d) (i : (execOp a.eval o).run P w = .ok (.value v) w') (m : d < b.length) (l : b.length = N)
  (h : RP c b a.tmps w' (upd noP b.length av) vs) (q : vs b.length = v) (j : K (setD (some d) b av) = some r) (p : Next c a K r N next) : o.wp P a w next Q := by
 unfold Oper.wp;rw [i];show next (a.put o.dst v) w'
 rw [g];have := RE.commit h m;rw [q] at this;exact p _ _ _ j this (by rw [Y1e, l]) rfl
theorem finV (j : RE c env a.tmps w) (b : o.dst = some d) (i : (execOp a.eval o).run P w = .ok (.value v) w) (m : d < env.length)
  (y : ∀ vs cs bs, Rel c (SS env noP a.tmps vs w cs bs) -> ∃ cells, ValC c (SS env noP a.tmps vs w cs bs) av v cells) (g : (∀ q ∈ av.refs, q.1 < env.length) /\ (∀ q ∈ av.ptrs, q < env.length))
  (l : K (setD (some d) env av) = some r) (p : Next c a K r env.length next) : o.wp P a w next Q := by
 obtain ⟨vs, h⟩ := j;have := h.addVal (Xn _) rfl (fun cs bs j => y vs cs bs j) g;exact fin b i m rfl this (Y0 _ _ _) l p
theorem RE.val (b : RE c env tmps w) (ty : Option Ty) (x : Operand) : ∀ vs cs bs, Rel c (SS env noP tmps vs w cs bs) -> ∃ cells, ValC c (SS env noP tmps vs w cs bs) (rd ty env x) (evT tmps x) cells :=
 fun vs cs bs h => Ye b.choose_spec.len h ty x
theorem RE.refs (b : RE c env tmps w) (ty : Option Ty) (x : Operand) : (∀ q ∈ (rd ty env x).refs, q.1 < env.length) /\ (∀ q ∈ (rd ty env x).ptrs, q < env.length) :=
 Y5u b.choose_spec ty x
theorem Y2m (h : ValC c s (.con .val [lf]) v cells) (g : lf.m.live = true) : ∃ S, Rep S s.w lf.t .ro [v] lf.x [] := by
 obtain ⟨⟨rfl, _⟩, _, b⟩ := h;have := b 0 lf v rfl rfl;obtain ⟨t, x, m⟩ := lf;cases m with
 | at_ lv => exact ⟨_, Rep.ro this.1⟩
 | bor r j p => exact ⟨_, this.1⟩
 | dead => simp [Mode.live] at g
theorem RE.int1 (m : RE c env tmps w) {ty : Option Ty} {k : IntKind} {n : Int} (h : int1 (rd ty env x) = some (k, n)) : evT tmps x = .int k n := by
 obtain ⟨vs, g⟩ := m;obtain ⟨cs, bs, j, _⟩ := g.rel;obtain ⟨cells, i⟩ := Ye g.len j ty x;unfold Go.FP.int1 at h;split at h
 ·rename_i k' p lv b;rw [b] at i;simp at h;obtain ⟨rfl, rfl⟩ := h;obtain ⟨S, l⟩ := Y2m i rfl;simpa using l.1
 ·simp at h
theorem RE.bool1 (p : RE c env tmps w) {ty : Option Ty} {b : Bool} (h : bool1 (rd ty env x) = some b) : evT tmps x = .bool b := by
 obtain ⟨vs, i⟩ := p;obtain ⟨cs, bs, l, _⟩ := i.rel;obtain ⟨cells, j⟩ := Ye i.len l ty x;unfold Go.FP.bool1 at h;split at h
 ·rename_i q lv g;rw [g] at j;simp at h;subst h;obtain ⟨S, m⟩ := Y2m j rfl;simpa using m.1
 ·simp at h
theorem RE.str1 (p : RE c env tmps w) {ty : Option Ty} {b : ByteArray} (h : str1 (rd ty env x) = some b) : evT tmps x = .string b := by
 obtain ⟨vs, i⟩ := p;obtain ⟨cs, bs, l, _⟩ := i.rel;obtain ⟨cells, j⟩ := Ye i.len l ty x;unfold Go.FP.str1 at h;split at h
 ·rename_i q lv g;rw [g] at j;simp at h;subst h;obtain ⟨S, m⟩ := Y2m j rfl;simpa using m.1
 ·simp at h
theorem Y1z (c : Cx) (s : St) (k : IntKind) (n : Int) : ∃ cells, ValC c s (vInt k n) (.int k n) cells := ⟨[.int k n], ⟨rfl, rfl⟩, rfl, fun l lf u b g => by
 rw [Y1] at b;cases l with
 | zero => simp only [Xc, X0] at b g; subst b; subst g; exact ⟨⟨rfl, rfl⟩, trivial⟩
 | succ l => simp at b⟩
theorem Y3q (c : Cx) (s : St) (b : Bool) : ∃ cells, ValC c s (vBool b) (.bool b) cells := ⟨[.bool b], ⟨rfl, rfl⟩, rfl, fun l lf u g h => by
 rw [Y1] at g;cases l with
 | zero => simp only [Xc, X0] at g h; subst g; subst h; exact ⟨⟨rfl, rfl⟩, trivial⟩
 | succ l => simp at g⟩
theorem Y7s (c : Cx) (s : St) (b : ByteArray) : ∃ cells, ValC c s (vStr b) (.string b) cells := ⟨[.string b], ⟨rfl, rfl⟩, rfl, fun l lf u g h => by
 rw [Y1] at g;cases l with
 | zero => simp only [Xc, X0] at g h; subst g; subst h; exact ⟨⟨rfl, rfl⟩, trivial⟩
 | succ l => simp at g⟩
theorem Y1m {k : IntKind} {n : Int} {N : Nat} : (∀ q ∈ (vInt k n).refs, q.1 < N) /\ (∀ q ∈ (vInt k n).ptrs, q < N) := ⟨by simp [vInt, AV.refs, Leaf.refs], by simp [vInt, AV.ptrs]⟩
theorem Y3r {b : Bool} {N : Nat} : (∀ q ∈ (vBool b).refs, q.1 < N) /\ (∀ q ∈ (vBool b).ptrs, q < N) := ⟨by simp [vBool, AV.refs, Leaf.refs], by simp [vBool, AV.ptrs]⟩
theorem Y90 {b : ByteArray} {N : Nat} : (∀ q ∈ (vStr b).refs, q.1 < N) /\ (∀ q ∈ (vStr b).ptrs, q < N) := ⟨by simp [vStr, AV.refs, Leaf.refs], by simp [vStr, AV.ptrs]⟩
theorem Ydu (g : o.op = .move x) (b : o.dst = some d) (h : RE c env a.tmps w) (j : d < env.length) (i : K (setD (some d) env (rd (T.ty o.type) env x)) = some r) (l : Next c a K r env.length next) : o.wp P a w next Q :=
 finV h b (v := evT a.tmps x) (by simp [execOp, g, Y4]) j (h.val _ x) (h.refs _ x) i l
theorem Yce {env env' : Env} (g : o.op = .assign x) (b : o.dst = some d) (p : RE c env a.tmps w) (y : d < env.length) (q : takeIn (T.ty o.type) env x = some (env', av)) (l : K (setD (some d) env' av) = some r) (m : Next c a K r env.length next) : o.wp P a w next Q := by
 obtain ⟨vs, h⟩ := p;obtain ⟨j, i⟩ := Yy h (fun r => .inl rfl) q (Xn _) rfl;rw [<- j] at i;exact fin b (v := evT a.tmps x) (by simp [execOp, g, Y4]) gr j i (Y0 _ _ _) l m
theorem Yba (g : o.op = .assign x) (b : o.dst = some d) (h : RE c env a.tmps w) (j : d < env.length) (i : K (setD (some d) env (rd (T.ty o.type) env x)) = some r) (l : Next c a K r env.length next) : o.wp P a w next Q :=
 finV h b (v := evT a.tmps x) (by simp [execOp, g, Y4]) j (h.val _ x) (h.refs _ x) i l
theorem Ydv {i x y : Operand} {t : Bool} (h : o.op = .pick i x y) (b : o.dst = some d) (g : RE c env a.tmps w) (m : d < env.length) (q : bool1 (rd none env i) = some t)
  (j : (bif t then K (setD (some d) env (rd (T.ty o.type) env x)) else K (setD (some d) env (rd (T.ty o.type) env y))) = some r) (p : Next c a K r env.length next) : o.wp P a w next Q := by
 have l := g.bool1 q;cases t with
 | true => exact finV g b (v := evT a.tmps x) (by simp [execOp, h, Y4, l, asBool]) m (g.val _ x) (g.refs _ x) j p
 | false => exact finV g b (v := evT a.tmps y) (by simp [execOp, h, Y4, l, asBool]) m (g.val _ y) (g.refs _ y) j p
end
theorem Y1f {α : Type} {b : Bool} {x : Option α} {r : α} (h : (bif b then x else none) = some r) : b = true /\ x = some r :=gr
theorem Y2n {α : Type} {b : Bool} {x : Option α} {r : α} (h : (bif b then none else x) = some r) : b = false /\ x = some r :=gr
section
variable {P : Program} {o : Oper} {a : Act} {w : World} {R : Type} {K : Env -> Option R} {r : R} {next : Act -> World -> Prop} {Q : Exit -> Act -> World -> Prop} {c : Cx} {d : Nat} {T : Tab} {env : Env}
theorem Ye6 {j : BinOp} {k : IntKind} {x y : Int} {K : AV -> Option R} (h : intOp j k x y K = some r) :
  ∃ av v, K av = some r /\ (∀ w, (Go.binOp j 0 (.int k x) (.int k y)).run P w = .ok v w) /\ (∀ t w, (Go.binOp j t (.int k x) (.int k y)).run P w = .ok v w) /\ (∀ c s, ∃ cells, ValC c s av v cells) /\ (∀ N : Nat, (∀ q ∈ av.refs, q.1 < N) /\ (∀ q ∈ av.ptrs, q < N)) := by
 have i : ∀ n, K (vInt k n) = some r -> (∀ t w, (Go.binOp j t (.int k x) (.int k y)).run P w = .ok (.int k n) w) -> _ := fun n b g =>
  (⟨vInt k n, .int k n, b, g 0, g, fun c s => Y1z c s k n, fun N => Y1m⟩ : ∃ av v, K av = some r /\ (∀ w, (Go.binOp j 0 (.int k x) (.int k y)).run P w = .ok v w) /\ (∀ t w, (Go.binOp j t (.int k x) (.int k y)).run P w = .ok v w) /\ (∀ c s, ∃ cells, ValC c s av v cells) /\ (∀ N : Nat, (∀ q ∈ av.refs, q.1 < N) /\ (∀ q ∈ av.ptrs, q < N)))
 have l : ∀ n, K (vBool n) = some r -> (∀ t w, (Go.binOp j t (.int k x) (.int k y)).run P w = .ok (.bool n) w) -> _ := fun n b g =>
  (⟨vBool n, .bool n, b, g 0, g, fun c s => Y3q c s n, fun N => Y3r⟩ : ∃ av v, K av = some r /\ (∀ w, (Go.binOp j 0 (.int k x) (.int k y)).run P w = .ok v w) /\ (∀ t w, (Go.binOp j t (.int k x) (.int k y)).run P w = .ok v w) /\ (∀ c s, ∃ cells, ValC c s av v cells) /\ (∀ N : Nat, (∀ q ∈ av.refs, q.1 < N) /\ (∀ q ∈ av.ptrs, q < N)))
 cases j with
 | add => exact i _ h (fun t w => by simp [Go.binOp, Op.intArith])
 | sub => exact i _ h (fun t w => by simp [Go.binOp, Op.intArith])
 | mul => exact i _ h (fun t w => by simp [Go.binOp, Op.intArith])
 | quo =>
  obtain ⟨b, g⟩ := Y2n h;have b : y ≠ 0 := by simpa using b
  exact i _ g (fun t w => by simp [Go.binOp, Op.intDiv, b])
 | rem =>
  obtain ⟨b, g⟩ := Y2n h;have b : y ≠ 0 := by simpa using b
  exact i _ g (fun t w => by simp [Go.binOp, Op.intDiv, b])
 | and => exact i _ h (fun t w => by simp [Go.binOp, Op.intBits])
 | xor => exact i _ h (fun t w => by simp [Go.binOp, Op.intBits])
 | or => exact i _ h (fun t w => by simp [Go.binOp, Op.intBits])
 | shr =>
  obtain ⟨b, g⟩ := Y2n h;have b : ¬ y < 0 := by simpa using b
  exact i _ g (fun t w => by simp [Go.binOp, Op.shift, b])
 | shl =>
  obtain ⟨b, g⟩ := Y2n h;have b : ¬ y < 0 := by simpa using b
  exact i _ g (fun t w => by simp [Go.binOp, Op.shift, b])
 | eql => exact l _ h (fun t w => by simp [Go.binOp, Op.intCmp])
 | neq => exact l _ h (fun t w => by simp [Go.binOp, Op.intCmp])
 | lss => exact l _ h (fun t w => by simp [Go.binOp, Op.intCmp])
 | leq => exact l _ h (fun t w => by simp [Go.binOp, Op.intCmp])
 | gtr => exact l _ h (fun t w => by simp [Go.binOp, Op.intCmp])
 | geq => exact l _ h (fun t w => by simp [Go.binOp, Op.intCmp])
 | _ => simp [intOp] at h
theorem Yd0 {i : BinOp} {k k' : IntKind} {x y : Int} {K : AV -> Option R} (h : shiftOp i k x y K = some r) :
  ∃ av v, K av = some r /\ (∀ t w, (Go.binOp i t (.int k x) (.int k' y)).run P w = .ok v w) /\ (∀ c s, ∃ cells, ValC c s av v cells) /\ (∀ N : Nat, (∀ q ∈ av.refs, q.1 < N) /\ (∀ q ∈ av.ptrs, q < N)) := by
 cases i with
 | shr =>
  obtain ⟨b, g⟩ := Y2n h;have b : ¬ y < 0 := by simpa using b
  exact ⟨_, _, g, fun t w => by simp [Go.binOp, Op.shift, b], fun c s => Y1z c s k _, fun N => Y1m⟩
 | shl =>
  obtain ⟨b, g⟩ := Y2n h;have b : ¬ y < 0 := by simpa using b
  exact ⟨_, _, g, fun t w => by simp [Go.binOp, Op.shift, b], fun c s => Y1z c s k _, fun N => Y1m⟩
 | _ => simp [shiftOp] at h
theorem Ye7 {b : BinOp} {x y : ByteArray} {K : AV -> Option R} (h : strOp b x y K = some r) :
  ∃ av v, K av = some r /\ (∀ t w, (Go.binOp b t (.string x) (.string y)).run P w = .ok v w) /\ (∀ c s, ∃ cells, ValC c s av v cells) /\ (∀ N : Nat, (∀ q ∈ av.refs, q.1 < N) /\ (∀ q ∈ av.ptrs, q < N)) := by
 have g : ∀ n, K (vBool n) = some r -> (∀ t w, (Go.binOp b t (.string x) (.string y)).run P w = .ok (.bool n) w) -> _ := fun n i j =>
  (⟨vBool n, .bool n, i, j, fun c s => Y3q c s n, fun N => Y3r⟩ : ∃ av v, K av = some r /\ (∀ t w, (Go.binOp b t (.string x) (.string y)).run P w = .ok v w) /\ (∀ c s, ∃ cells, ValC c s av v cells) /\ (∀ N : Nat, (∀ q ∈ av.refs, q.1 < N) /\ (∀ q ∈ av.ptrs, q < N)))
 cases b with
 | add =>
  obtain ⟨i, j⟩ := Y1f h;have i : x.size + y.size <= 140737488355328 := by simpa using i
  refine ⟨vStr (x ++ y), .string (x ++ y), j, fun t w => ?_, fun c s => Y7s c s _, fun N => Y90⟩;simp [Go.binOp, Op.stringOp];omega
 | eql => exact g _ h (fun t w => by simp [Go.binOp, Op.stringOp])
 | neq => exact g _ h (fun t w => by simp [Go.binOp, Op.stringOp])
 | lss => exact g _ h (fun t w => by simp [Go.binOp, Op.stringOp])
 | geq => exact g _ h (fun t w => by simp [Go.binOp, Op.stringOp])
 | _ => simp [strOp] at h
theorem Y85 (b : BinOp) (t : TypeId) (x y : Operand) (k k' : IntKind) (n m : Int) (w : World) : (eqGuard b t x y (.int k n) (.int k' m)).run P w = .ok () w := by
 unfold eqGuard; cases b <;> simp
theorem Ycf (b : BinOp) (t : TypeId) (x y : Operand) (n m : ByteArray) (w : World) : (eqGuard b t x y (.string n) (.string m)).run P w = .ok () w := by
 unfold eqGuard; cases b <;> simp
theorem Y6x (b : BinOp) (t : TypeId) (x y : Operand) (n m : Bool) (w : World) : (eqGuard b t x y (.bool n) (.bool m)).run P w = .ok () w := by
 unfold eqGuard; cases b <;> simp
def Leaf.cell (l : Leaf) : Value := match l with
 | ⟨.int k, a, _⟩ => .int k a
 | ⟨.bool, a, _⟩ => .bool a
 | ⟨.str, a, _⟩ => .string a
 | _ => undef
theorem Yd1 (hT : TabOk P T) {g : BinOp} {t j : TypeId} {x y : Operand} (i : o.op = .binOp g t x y j) (b : o.dst = some d) (p : RE c env a.tmps w) (l : d < env.length)
  (h : aggOp T g t (rd none env x) (rd none env y) (fun v => K (setD (some d) env v)) = some r) (m : Next c a K r env.length next) : o.wp P a w next Q := by simp [aggOp] at h
theorem Yd2 (hT : TabOk P T) {F : BinOp} {t N : TypeId} {x y : Operand} (i : o.op = .binOp F t x y N) (b : o.dst = some d) (g : RE c env a.tmps w) (A : d < env.length)
  (h : binOp1 T F t (rd none env x) (rd none env y) (fun v => K (setD (some d) env v)) = some r) (B : Next c a K r env.length next) : o.wp P a w next Q := by
 unfold binOp1 at h;split at h
 ·rename_i k n k' m q z;split at h
  ·rename_i I;subst I;obtain ⟨av, v, j, _, l, p, C⟩ := Ye6 (P := P) h;refine finV g b (v := v) ?_ A (fun vs cs bs _ => p _ _) (C _) j B;simp [execOp, i, Y4, g.int1 q, g.int1 z, Y85, l]
  ·obtain ⟨av, v, j, l, p, C⟩ := Yd0 (P := P) (k' := k') h;refine finV g b (v := v) ?_ A (fun vs cs bs _ => p _ _) (C _) j B;simp [execOp, i, Y4, g.int1 q, g.int1 z, Y85, l]
 ·split at h
  ·rename_i n m q z;obtain ⟨av, v, j, l, p, C⟩ := Ye7 (P := P) h;refine finV g b (v := v) ?_ A (fun vs cs bs _ => p _ _) (C _) j B;simp [execOp, i, Y4, g.str1 q, g.str1 z, Ycf, l]
  ·split at h
   ·rename_i n m q z;split at h
    ·rename_i L;have M : P.underlying t = some .bool := by
      obtain ⟨e, j, p⟩ := Tab.ty_te L;obtain ⟨l, rfl, E⟩ := Tab.te_mem j;have := (hT e l).desc E;rw [p] at this;exact this
     have D : (Op.equal t (.bool n) (.bool m)).run P w = .ok (n == m) w := by
      have : ∀ G, (Op.equalIn (G + 1) t (.bool n) (.bool m)).run P w = .ok (n == m) w := fun G => by simp [Op.equalIn, run_underlying M]
      exact this 9999
     cases F with
     | eql =>
      refine finV g b (v := .bool (n == m)) ?_ A (fun vs cs bs _ => Y3q _ _ _) Y3r h B;simp only [execOp, i, Y4, g.bool1 q, g.bool1 z, X2w, Y6x, X2q, Go.binOp, D, Sem.run_pure]
     | neq =>
      refine finV g b (v := .bool (!(n == m))) ?_ A (fun vs cs bs _ => Y3q _ _ _) Y3r h B;simp only [execOp, i, Y4, g.bool1 q, g.bool1 z, X2w, Y6x, X2q, Go.binOp, D, Sem.run_pure]
     | _ => simp at h
    ·simp at h
   ·exact Yd1 hT i b g A h B
theorem Ydw {m : UnOp} {t : TypeId} (i : o.op = .unOp m t x) (h : o.dst = some d) (j : RE c env a.tmps w) (p : d < env.length)
  (g : unOp1 m (rd none env x) (fun v => K (setD (some d) env v)) = some r) (q : Next c a K r env.length next) : o.wp P a w next Q := by
 unfold unOp1 at g;cases m with
 | not =>
  simp only at g;split at g
  ·rename_i b l;exact finV j h (v := .bool (!b)) (by simp [execOp, i, Y4, j.bool1 l, Op.unary]) p (fun vs cs bs _ => Y3q _ _ _) Y3r g q
  ·simp at g
 | neg =>
  simp only at g;split at g
  ·rename_i k n l;exact finV j h (v := .int k (k.wrap (0 - n))) (by simp [execOp, i, Y4, j.int1 l, Op.unary, Op.intArith]) p (fun vs cs bs _ => Y1z _ _ _ _) Y1m g q
  ·simp at g
 | _ => simp at g
theorem Ybb (hT : TabOk P T) {s h : TypeId} {k k' k2 : IntKind} {n : Int} (g : o.op = .convert s h x) (b : o.dst = some d) (i : RE c env a.tmps w) (l : d < env.length) (q : T.ty s = some (.int k)) (y : T.ty h = some (.int k'))
  (m : int1 (rd none env x) = some (k2, n)) (j : K (setD (some d) env (vInt k' (k'.wrap n))) = some r) (p : Next c a K r env.length next) : o.wp P a w next Q := by
 refine finV i b (v := .int k' (k'.wrap n)) ?_ l (fun vs cs bs _ => Y1z _ _ _ _) Y1m j p;simp [execOp, g, Y4, i.int1 m, Go.convert, run_underlying (TabOk.int hT q), run_underlying (TabOk.int hT y), Conv.intToInt]
theorem Yd3 (hT : TabOk P T) {t : TypeId} {x i : Operand} {s : ByteArray} {k : IntKind} {n : Int} (j : o.op = .index t x i) (g : o.dst = some d) (l : RE c env a.tmps w) (p : d < env.length) (A : T.ty t = some .str) (z : str1 (rd none env x) = some s) (q : int1 (rd none env i) = some (k, n))
  (h : ((if 0 <= n then s[n.toNat]? else none).bind fun b => K (setD (some d) env (vInt .u8 b.toNat))) = some r) (y : Next c a K r env.length next) : o.wp P a w next Q := by
 obtain ⟨b, m, h⟩ := Xu.1 h;refine finV l g (v := .int .u8 b.toNat) ?_ p (fun vs cs bs _ => Y1z _ _ _ _) Y1m h y;simp [execOp, j, Y4, l.str1 z, l.int1 q, Instr.index, asIntOf, run_underlying (TabOk.str hT A), m]
theorem Y86 {t : TypeId} {x y : Operand} {j : Call} {mx : Bool} {k : IntKind} {n m : Int} (h : o.op = .call j) (p : j.callee = .builtin (if mx then .max else .min)) (l : j.args.toList = [x, y]) (g : o.dst = some d) (i : RE c env a.tmps w) (B : d < env.length)
  (q : int1 (rd none env x) = some (k, n)) (z : int1 (rd none env y) = some (k, m)) (A : K (setD (some d) env (vInt k (if mx then (if m > n then m else n) else (if m < n then m else n)))) = some r) (C : Next c a K r env.length next) : o.wp P a w next Q := by
 have b : j.args = #[x, y] :=gr;refine finV i g (v := .int k (if mx then (if m > n then m else n) else (if m < n then m else n))) ?_ B (fun vs cs bs _ => Y1z _ _ _ _) Y1m A C;cases mx with
 | true => simp [execOp, h, resolve, p, b, invoke, builtin, Builtin.max_, Builtin.max2, Y4, i.int1 q, i.int1 z]
 | false => simp [execOp, h, resolve, p, b, invoke, builtin, Builtin.min_, Builtin.min2, Y4, i.int1 q, i.int1 z]
theorem Ybc (hT : TabOk P T) {t : TypeId} {h : Call} {s : ByteArray} (l : o.op = .call h) (y : h.callee = .builtin .len) (j : h.args.toList = [x]) (p : h.argTypes.toList = [t]) (i : o.dst = some d) (m : RE c env a.tmps w) (z : d < env.length)
  (C : str1 (rd none env x) = some s) (B : T.ty t = some .str) (q : K (setD (some d) env (vInt .i64 (s.size : Int))) = some r) (A : Next c a K r env.length next) : o.wp P a w next Q := by
 have b : h.args = #[x] :=gr;have g : h.argTypes = #[t] :=gr;refine finV m i (v := .int .i64 (s.size : Int)) ?_ z (fun vs cs bs _ => Y1z _ _ _ _) Y1m q A;simp [execOp, l, resolve, y, b, g, invoke, builtin, Builtin.len_, Y4, m.str1 C, run_underlying (TabOk.str hT B), goInt]
theorem RE.slice (F : RE c env tmps w) {ty : Option Ty} {xs : List τ.D} (h : rd ty env x = .con .val [lf]) (b : lf.as (.slice e τ) = some xs) (j : lf.m.live = true) : ∃ A i, evT tmps x = .slice A xs.length i /\ xs.length <= i := by
 obtain ⟨vs, l⟩ := F;obtain ⟨cs, bs, D, _⟩ := l.rel;obtain ⟨cells, q⟩ := Ye l.len D ty x;rw [h] at q;obtain ⟨S, E⟩ := Y2m q j;obtain ⟨t, y, m⟩ := lf;unfold Leaf.as at b;split at b
 ·rename_i p;simp only at p;subst p;simp at b;subst b;obtain ⟨v, z, G, I, B, _, _, g⟩ := E;obtain ⟨A, i, C, j⟩ := g.slice;have : evT tmps x = v := by simpa using B
  rw [this];exact ⟨A, i, C, j⟩
 ·simp at b
theorem Y91 (hT : TabOk P T) {t e : TypeId} {g : Call} {lx : Leaf} {xs : List τ.D} (m : o.op = .call g) (B : g.callee = .builtin .len) (h : g.args.toList = [x]) (l : g.argTypes.toList = [t]) (j : o.dst = some d) (p : RE c env a.tmps w) (C : d < env.length)
  (F : T.ty t = some (.slice e τ)) (G : rd (some (.slice e τ)) env x = .con .val [lx]) (z : lx.as (.slice e τ) = some xs) (D : lx.m.live = true) (y : K (setD (some d) env (vInt .i64 (xs.length : Int))) = some r) (E : Next c a K r env.length next) : o.wp P a w next Q := by
 have b : g.args = #[x] := by rw [<- X1n (xs := g.args), h]
 have i : g.argTypes = #[t] := by rw [<- X1n (xs := g.argTypes), l]
 obtain ⟨A, I, q, _⟩ := p.slice G z D;refine finV p j (v := .int .i64 (xs.length : Int)) ?_ C (fun vs cs bs _ => Y1z _ _ _ _) Y1m y E;simp [execOp, m, resolve, B, b, i, invoke, builtin, Builtin.len_, Y4, q, run_underlying (TabOk.slice hT F), goInt]
theorem Y16 (b o n : Nat) : (⟨b, o, none⟩ : Addr).add n = ⟨b, o + n, none⟩ := by unfold Addr.add; split <;> simp_all
theorem Y5v (x : Addr) (n m : Nat) : (x.add n).add m = x.add (n + m) := by
 unfold Addr.add;by_cases b : n = 0 <;> by_cases g : m = 0 <;> simp_all;omega
theorem Y63 (hT : TabOk P T) {s : TypeId} {f off : Nat} (h : fieldAt T s f = some (off, τ)) (x : Addr) (w : World) : (Instr.fieldAt s (.pointer (some x)) f).run P w = .ok (.pointer (some (x.add off))) w := by
 obtain ⟨fs, l, b, g, rfl, i, j⟩ := TabOk.field hT h;simp [Instr.fieldAt, run_underlying b, g, Instr.sureAddr, fieldPlace, TabOk.sizeOf hT i, j]
theorem Y47 (n : Nat) (ls : List Leaf) (l : Nat) : leafAt (dropLs n ls) l = leafAt ls (n + l) := by rw [Y1, Y1, Yr, X1l]
theorem Y48 {l : Nat} (h : leafAt (takeLs n ls) l = some lf) : leafAt ls l = some lf := by
 rw [Y1, Yn, X1f] at h;rw [Y1];split at h
 ·exact h
 ·simp at h
theorem Y52 (n : Nat) (ls : List Leaf) : ∀ q ∈ (dropLs n ls).flatMap Leaf.refs, q ∈ ls.flatMap Leaf.refs := by
 intro q b;rw [Yr] at b;simp at b ⊢;obtain ⟨l, g, b⟩ := b;exact ⟨l, X2j g, b⟩
theorem Y53 (n : Nat) (ls : List Leaf) : ∀ q ∈ (takeLs n ls).flatMap Leaf.refs, q ∈ ls.flatMap Leaf.refs := by
 intro q b;rw [Yn] at b;simp at b ⊢;obtain ⟨l, g, b⟩ := b;exact ⟨l, X2k g, b⟩
theorem Y60 (hT : TabOk P T) {s : TypeId} {f off r' l : Nat} (m : o.op = .fieldAddr s x f) (b : o.dst = some d) (j : RE c env a.tmps w) (I : d < env.length) (L : fieldAt T s f = some (off, τ)) (p : rd none env x = .path r' l)
  (G : K (setD (some d) env (.path r' (l + off))) = some r) (M : Next c a K r env.length next) : o.wp P a w next Q := by
 obtain ⟨vs, i⟩ := j;have j : RE c env a.tmps w := ⟨vs, i⟩;obtain ⟨cs, bs, E, _⟩ := i.rel;obtain ⟨cells, z⟩ := Ye i.len E none x;rw [p] at z;obtain ⟨e, ls, B, O, U, y⟩ := z;refine finV j b (v := .pointer (some ⟨B, l + off, none⟩)) ?_ I (fun vs cs bs g => ?_) ?_ G M
 ·have := Y63 hT L ⟨B, l, none⟩ w;simp [execOp, m, Y4, y, this, Y16]
 ·obtain ⟨cells, h⟩ := Ye i.len g none x;rw [p] at h;obtain ⟨D, q, C, N, k2, A⟩ := h;rw [y] at A;have F : B = C := by simpa using A
  subst F;exact ⟨[], D, q, B, N, k2, rfl⟩
 ·have := j.refs none x;rw [p] at this;exact this
theorem Y3c (hT : TabOk P T) {s : TypeId} {f off : Nat} {G : Option (Nat × Nat × List (Int × Nat) × Int × Nat)} (N : o.op = .fieldAddr s x f) (g : o.dst = some d) (E : RE c env a.tmps w) (hd : d < env.length) (hf : fieldAt T s f = some (off, τ)) (U : rd none env x = .eptr ls G)
  (hK : K (setD (some d) env (.eptr (dropLs off ls) (match G with | some (r, j, p, i, q) => some (r, j, p, i, q + off) | none => none))) = some r) (hn : Next c a K r env.length next) : o.wp P a w next Q := by
 obtain ⟨vs, D⟩ := E;have E : RE c env a.tmps w := ⟨vs, D⟩;obtain ⟨cs, bs, h1, _⟩ := D.rel;obtain ⟨cells, hv⟩ := Ye D.len h1 none x;rw [U] at hv;obtain ⟨I, C, _, _⟩ := hv;refine finV E g (v := .pointer (some (I.add off))) ?_ hd (fun vs cs bs h => ?_) ?_ hK hn
 ·have := Y63 hT hf I w;simp [execOp, N, Y4, C, this]
 ·obtain ⟨cells, y⟩ := Ye D.len h none x;rw [U] at y;obtain ⟨x1, k1, k2, W⟩ := y;rw [C] at k1;have V : I = x1 := by simpa using k1
  subst V;refine ⟨[], I.add off, rfl, fun l lf Z => ?_, ?_⟩
  ·rw [Y47] at Z;obtain ⟨X, u, Y, F⟩ := k2 _ _ Z;exact ⟨X, u, by rw [Y5v]; exact Y, F⟩
  ·cases G with
   | none => exact ⟨by rw [Addr.add_block]; exact W.1, by rw [Addr.add_block]; exact W.2⟩
   | some q =>
    obtain ⟨r', j, p, i, q⟩ := q;obtain ⟨X, lf, u, Y, F⟩ := W;refine ⟨by rw [Addr.add_block]; exact X, lf, u, Y, fun O => ?_, fun i0 o0 z O => ?_⟩
    ·obtain ⟨e, t, xs, m, B, n, L, n1, n2, n3, n4, n5⟩ := F.1 O;exact ⟨e, t, xs, m, B, n, L, n1, n2, n3, n4, by rw [n5, Y16, X29]⟩
    ·obtain ⟨e, t, xs, m, B, n, L, A, n', M, C, g2, g3, g4, g5, g6, g7⟩ := F.2 i0 o0 z O;exact ⟨e, t, xs, m, B, n, L, A, n', M, C, g2, g3, g4, g5, g6, by rw [g7, Addr.add_add, X29]⟩
 ·have := E.refs none x;rw [U] at this;simp only [AV.refs, AV.ptrs] at this ⊢;refine ⟨fun q b => ?_, sm⟩;simp only [X6] at b;rcases b with b | b
  ·exact this.1 q (X8 _ (Y52 _ _ q b))
  ·refine this.1 q (Xe _ ?_);cases G with
   | none => simp at b
   | some q' => obtain ⟨r', j, p, i, q'⟩ := q'; exact b
theorem Y6i {r' m : Nat} (i : o.op = .nilCheck x) (b : o.dst = some d) (g : RE c env a.tmps w) (z : d < env.length) (j : rd none env x = .path r' m) (y : K (setD (some d) env (.path r' m)) = some r) (A : Next c a K r env.length next) : o.wp P a w next Q := by
 obtain ⟨vs, h⟩ := g;have g : RE c env a.tmps w := ⟨vs, h⟩;obtain ⟨cs, bs, q, _⟩ := h.rel;obtain ⟨cells, l⟩ := Ye h.len q none x;rw [j] at l;obtain ⟨e, ls, B, C, D, p⟩ := l;refine finV g b (v := evT a.tmps x) ?_ z (j ▸ g.val none x) (j ▸ g.refs none x) y A;simp [execOp, i, Y4, p]
theorem Y6y {cs : List (Nat × Nat)} (i : o.op = .nilCheck x) (b : o.dst = some d) (g : RE c env a.tmps w) (z : d < env.length) (j : rd none env x = .clo f cs) (y : K (setD (some d) env (.clo f cs)) = some r) (A : Next c a K r env.length next) : o.wp P a w next Q := by
 obtain ⟨vs, h⟩ := g;have g : RE c env a.tmps w := ⟨vs, h⟩;obtain ⟨m, bs, q, _⟩ := h.rel;obtain ⟨cells, l⟩ := Ye h.len q none x;rw [j] at l;obtain ⟨B, p, C⟩ := l;refine finV g b (v := evT a.tmps x) ?_ z (j ▸ g.val none x) (j ▸ g.refs none x) y A;simp [execOp, i, Y4, p]
theorem Y6j (i : o.op = .nilCheck x) (b : o.dst = some d) (g : RE c env a.tmps w) (z : d < env.length) (j : rd none env x = .cloR f xs) (y : K (setD (some d) env (.cloR f xs)) = some r) (A : Next c a K r env.length next) : o.wp P a w next Q := by
 obtain ⟨vs, h⟩ := g;have g : RE c env a.tmps w := ⟨vs, h⟩;obtain ⟨m, bs, q, _⟩ := h.rel;obtain ⟨cells, l⟩ := Ye h.len q none x;rw [j] at l;obtain ⟨B, p, C⟩ := l;refine finV g b (v := evT a.tmps x) ?_ z (j ▸ g.val none x) (j ▸ g.refs none x) y A;simp [execOp, i, Y4, p]
theorem Y6k {m : Option (Nat × Nat × List (Int × Nat) × Int × Nat)} (i : o.op = .nilCheck x) (b : o.dst = some d) (g : RE c env a.tmps w) (A : d < env.length) (j : rd none env x = .eptr ls m) (z : K (setD (some d) env (.eptr ls m)) = some r) (B : Next c a K r env.length next) : o.wp P a w next Q := by
 obtain ⟨vs, h⟩ := g;have g : RE c env a.tmps w := ⟨vs, h⟩;obtain ⟨p, bs, y, _⟩ := h.rel;obtain ⟨cells, l⟩ := Ye h.len y none x;rw [j] at l;obtain ⟨C, q, D⟩ := l;refine finV g b (v := evT a.tmps x) ?_ A (j ▸ g.val none x) (j ▸ g.refs none x) z B;simp [execOp, i, Y4, q]
end
theorem Y1x : ∀ (t : Ty) {cs : List Value} {x : t.D} (md : Nat -> Mode) (n : Nat), Rep S w t .ro cs x [] ->
  (leaves t x md n).length = cs.length /\ ∀ (l : Nat) (lf : Leaf) (u : Value), (leaves t x md n)[l]? = some lf -> cs[l]? = some u -> Rep S w lf.t .ro [u] lf.x [] /\ ((lf.m = .at_ .ro /\ lf.t.flatB = true) \/ lf.m = md (n + l))
 | .int k, cs, x, md, n, h => by
  obtain ⟨rfl, _⟩ := h;refine ⟨rfl, fun l lf u g i => ?_⟩;cases l with
  | zero => simp only [leaves, Xc, X0] at g i; subst g; subst i; exact ⟨⟨rfl, rfl⟩, .inl ⟨rfl, rfl⟩⟩
  | succ l => simp [leaves] at g
 | .bool, cs, x, md, n, h => by
  obtain ⟨rfl, _⟩ := h;refine ⟨rfl, fun l lf u g i => ?_⟩;cases l with
  | zero => simp only [leaves, Xc, X0] at g i; subst g; subst i; exact ⟨⟨rfl, rfl⟩, .inl ⟨rfl, rfl⟩⟩
  | succ l => simp [leaves] at g
 | .str, cs, x, md, n, h => by
  obtain ⟨rfl, _⟩ := h;refine ⟨rfl, fun l lf u g i => ?_⟩;cases l with
  | zero => simp only [leaves, Xc, X0] at g i; subst g; subst i; exact ⟨⟨rfl, rfl⟩, .inl ⟨rfl, rfl⟩⟩
  | succ l => simp [leaves] at g
 | .slice e t, cs, x, md, n, h => by
  have q := h;obtain ⟨v, xs, D, p, rfl, _⟩ := h;refine ⟨rfl, fun l lf u g i => ?_⟩;cases l with
  | zero => simp only [leaves, Xc, X0] at g i; subst g; subst i; exact ⟨q, .inr rfl⟩
  | succ l => simp [leaves] at g
 | .unit, cs, x, md, n, h => by
  obtain ⟨rfl, _⟩ := h;exact ⟨rfl, fun l lf u g i => gr⟩
 | .pair a b, cs, x, md, n, h => by
  obtain ⟨j, F, p, E, rfl, z, m, y⟩ := h;obtain ⟨rfl, rfl⟩ := X2e.1 z.symm;obtain ⟨C, G⟩ := Y1x a md n m;obtain ⟨l2, k2⟩ := Y1x b md (n + a.sz) y;have B : j.length = a.sz := Rep.len m;refine ⟨by simp [leaves, C, l2], fun l lf u g i => ?_⟩;simp [leaves] at g;by_cases A : l < j.length
  ·grind
  ·grind
theorem Yj : ∀ (t : Ty) (x : t.D) (g : Nat -> Mode) (n : Nat), (leaves t x g n).map Leaf.t = flat t
 | .int k, x, g, n => rfl
 | .bool, x, g, n => rfl
 | .str, x, g, n => rfl
 | .slice e t, x, g, n => rfl
 | .unit, x, g, n => rfl
 | .pair a b, x, g, n => by simp only [leaves, List.map_append, Yj a, Yj b]; rfl
theorem Y2d (lv : Lvl) : ∀ (t : Ty) {cs : List Value} {x : t.D} {bs : List Nat} (n : Nat), Rep S w t lv cs x bs ->
  (leaves t x (fun _ => .at_ lv) n).length = cs.length /\ (∀ lf ∈ leaves t x (fun _ => .at_ lv) n, lf.m.settled = true) /\ ∃ j : List (List Nat), j.length = cs.length /\ bs = j.flatten /\
   ∀ (l : Nat) (lf : Leaf) (u : Value), (leaves t x (fun _ => .at_ lv) n)[l]? = some lf -> cs[l]? = some u -> ∃ m, lf.m = .at_ m /\ Rep S w lf.t m [u] lf.x (j.getD l [])
 | .int k, cs, x, bs, n, h => by
  obtain ⟨rfl, rfl⟩ := h;refine ⟨rfl, by simp [leaves, Mode.settled], [[]], rfl, rfl, fun l lf u g i => ?_⟩;cases l with
  | zero => simp only [leaves, Xc, X0] at g i; subst g; subst i; exact ⟨.ro, rfl, rfl, rfl⟩
  | succ l => simp [leaves] at g
 | .bool, cs, x, bs, n, h => by
  obtain ⟨rfl, rfl⟩ := h;refine ⟨rfl, by simp [leaves, Mode.settled], [[]], rfl, rfl, fun l lf u g i => ?_⟩;cases l with
  | zero => simp only [leaves, Xc, X0] at g i; subst g; subst i; exact ⟨.ro, rfl, rfl, rfl⟩
  | succ l => simp [leaves] at g
 | .str, cs, x, bs, n, h => by
  obtain ⟨rfl, rfl⟩ := h;refine ⟨rfl, by simp [leaves, Mode.settled], [[]], rfl, rfl, fun l lf u g i => ?_⟩;cases l with
  | zero => simp only [leaves, Xc, X0] at g i; subst g; subst i; exact ⟨.ro, rfl, rfl, rfl⟩
  | succ l => simp [leaves] at g
 | .slice e t, cs, x, bs, n, h => by
  have F := h;obtain ⟨v, xs, U, q, rfl, _⟩ := h;refine ⟨rfl, by simp [leaves, Mode.settled], [bs], rfl, sm, fun l lf u g i => ?_⟩;cases l with
  | zero => simp only [leaves, Xc, X0] at g i; subst g; subst i; exact ⟨lv, rfl, F⟩
  | succ l => simp [leaves] at g
 | .unit, cs, x, bs, n, h => by
  obtain ⟨rfl, rfl⟩ := h;exact ⟨rfl, by simp [leaves], [], rfl, rfl, fun l lf u g i => gr⟩
 | .pair a b, cs, x, bs, n, h => by
  obtain ⟨y, W, q, V, rfl, rfl, G, I⟩ := h;obtain ⟨M, N, z, B, D, X⟩ := Y2d lv a n G;obtain ⟨l2, O, A, C, E, k2⟩ := Y2d lv b (n + a.sz) I;refine ⟨by simp [leaves, M, l2], fun lf p => ?_, z ++ A, by simp [B, C], by rw [D, E, X2y], fun l lf u g i => ?_⟩
  ·simp only [leaves] at p;exact (X6.1 p).elim (N lf) (O lf)
  ·simp [leaves] at g;by_cases L : l < y.length
   ·grind
   ·grind
theorem Y1r {lv : Lvl} : ∀ (t : Ty) (x : t.D) (n : Nat), ∀ lf ∈ leaves t x (fun _ => .at_ lv) n, lf.m = .at_ .ro \/ lf.m = .at_ lv
 | .int k, x, n, lf, h => by simp [leaves] at h; rw [h]; exact .inl rfl
 | .bool, x, n, lf, h => by simp [leaves] at h; rw [h]; exact .inl rfl
 | .str, x, n, lf, h => by simp [leaves] at h; rw [h]; exact .inl rfl
 | .slice e t, x, n, lf, h => by simp [leaves] at h; rw [h]; exact .inr rfl
 | .unit, x, n, lf, h => by simp [leaves] at h
 | .pair a b, x, n, lf, h => by
  simp [leaves] at h;rcases h with h | h
  ·exact Y1r a _ _ _ h
  ·exact Y1r b _ _ _ h
theorem Y92 {lv m : Lvl} {M : Mode} (b : M = .at_ m) (h : M = .at_ .ro \/ M = .at_ lv) (g : lv.pinOk c u) : m.pinOk c u := by
 rcases h with h | h
 ·rw [h] at b; cases b; trivial
 ·grind
section
variable {P : Program} {o : Oper} {a : Act} {w : World} {R : Type} {K : Env -> Option R} {r : R} {next : Act -> World -> Prop} {Q : Exit -> Act -> World -> Prop} {c : Cx} {d : Nat} {T : Tab} {env : Env}
theorem Leaf.as_eq {x : t.D} (h : lf.as t = some x) : lf = ⟨t, x, lf.m⟩ := by
 obtain ⟨b, y, m⟩ := lf;unfold Leaf.as at h;split at h
 ·grind
 ·simp at h
theorem Y93 {xs : List τ.D} (h : Rep S w (.slice e τ) .ro [v] xs []) {i : Nat} (D : i < xs.length) (Z : 0 < τ.sz) :
  ∃ A c j, v = .slice (some A) xs.length c /\ j.length = τ.sz /\ S A.block /\ A.block < w.heap.size /\ (∀ (l : Nat) (u : Value), j[l]? = some u -> w.cell? ((A.add (i * τ.sz)).add l) = some u) /\ Rep S w τ .ro j (xs.getD i τ.dflt) [] := by
 obtain ⟨v', cs, F, G, y, L, B, p⟩ := h;have y : v = v' := by simpa using y
 subst y;obtain ⟨rfl, rfl⟩ := X2e.1 L.symm;obtain ⟨_, A, I, M, hl, hz, Y⟩ := p;obtain ⟨pre, j, E, F, b, G, O, U, V, f4, C, _⟩ := B.at_ i D;have g : ∀ (l : Nat) (u : Value), j[l]? = some u -> ∃ a, A = some a /\ S a.block /\ w.cell? (a.add (i * τ.sz + l)) = some u := by
  intro l u q;have m := (X9.1 q).1;refine Y _ u ?_;rw [O, X4, Xf om, Xs om, U, show i * τ.sz + l - i * τ.sz = l by omega];exact q
 obtain ⟨A0, rfl, X, z⟩ := g 0 j[0] (X1 om);have m := X2p w _ z;rw [Addr.add_block] at m;refine ⟨A0, I, j, M, V, X, m, fun l u q => ?_, ?_⟩
 ·obtain ⟨a', N, _, W⟩ := g l u q;cases N;rw [Y5v];exact W
 ·have : xs.getD i τ.dflt = xs[i] := by rw [Xh, X1 D]; rfl
  rw [this];have := Rep.ro_bs C;subst this;exact C
theorem Y8j {m : Mode} {i : Int} {l : Nat} : ∀ q : Nat × Nat, (∃ p, elemMode m i l = .bor q.1 q.2 p) -> ∃ p, m = .bor q.1 q.2 p := by
 rintro q ⟨p, b⟩
 unfold elemMode at b;split at b
 ·grind
 ·simp at b
theorem Y49 : ∀ (t : Ty) (x : t.D) (h : Nat -> Mode) (n : Nat), ∀ q ∈ (leaves t x h n).flatMap Leaf.refs, ∃ l p, h l = .bor q.1 q.2 p
 | .int k, x, h, n, q, g => by simp [leaves, Leaf.refs] at g
 | .bool, x, h, n, q, g => by simp [leaves, Leaf.refs] at g
 | .str, x, h, n, q, g => by simp [leaves, Leaf.refs] at g
 | .slice e t, x, h, n, q, g => by
  simp [leaves, Leaf.refs] at g;split at g
  ·grind
  ·simp at g
 | .unit, x, h, n, q, g => by simp [leaves] at g
 | .pair a b, x, h, n, q, g => by
  simp only [leaves, List.flatMap_append, X6] at g;rcases g with g | g
  ·exact Y49 a x.1 h n q g
  ·exact Y49 b x.2 h _ q g
theorem Y94 (hT : TabOk P T) {t : TypeId} {x i : Operand} {lx : Leaf} {n : Int} {xs : List te.ty.D} (hop : o.op = .indexAddr t x i) (hdst : o.dst = some d) (hr : RE c env a.tmps w) (hd : d < env.length) (ht : elemAt T t = some te)
  (hx : rd (some (.slice te.id te.ty)) env x = .con .val [lx]) (hi : int1 (rd none env i) = some (.i64, n)) (ha : lx.as (.slice te.id te.ty) = some xs) (hl : lx.m.live = true) (h0 : 0 <= n) (h1 : n < (xs.length : Int))
  (hK : K (setD (some d) env (.eptr (leaves te.ty (xs.getD n.toNat te.ty.dflt) (elemMode lx.m n) 0) (match lx.m with | .bor r j p => some (r, j, nestP te.ty.sz p, n, 0) | _ => none))) = some r) (hn : Next c a K r env.length next) : o.wp P a w next Q := by
 obtain ⟨hty, hund, _, hsz, hby, i0, hi0, hi1, _⟩ := TabOk.elem hT ht;obtain ⟨k, rfl⟩ : ∃ k : Nat, n = k := ⟨n.toNat, om⟩;have hk : k < xs.length :=om;simp only [Int.toNat_natCast] at hK;have hlx := Leaf.as_eq ha
 -- the value, in any state of this kind
 have X : ∀ vs cs bs, Rel c (SS env noP a.tmps vs w cs bs) -> ∃ A V, evT a.tmps x = .slice (some A) xs.length V /\
   ∃ cells, ValC c (SS env noP a.tmps vs w cs bs) (.eptr (leaves te.ty (xs.getD k te.ty.dflt) (elemMode lx.m k) 0) (match lx.m with | .bor r j p => some (r, j, nestP te.ty.sz p, (k : Int), 0) | _ => none)) (.pointer (some (A.add (k * te.ty.sz)))) cells := by
  intro vs cs bs E;obtain ⟨cells, hv⟩ := hr.val (some (.slice te.id te.ty)) x vs cs bs E;rw [hx, hlx] at hv;obtain ⟨⟨rfl, _⟩, _, hv3⟩ := hv;have hlv := hv3 0 _ _ rfl rfl;generalize hm : lx.m = m at hlv hl;cases m with
  | dead => simp [Mode.live] at hl
  | at_ lv =>
   obtain ⟨A, V, ch, U, e2, e3, e4, e5, e6⟩ := Y93 (Rep.move (S' := RoS c (SS env noP a.tmps vs w cs bs)) (fun b hb _ => ⟨by simpa using hb, rfl⟩) sm (Rep.ro hlv.1)) hk hsz;obtain ⟨f1, f2⟩ := Y1x te.ty (x := xs.getD k te.ty.dflt) (elemMode (.at_ lv) k) 0 e6;refine ⟨A, V, U, [], _, rfl, fun l lf I => ?_, by rw [Addr.add_block]; exact e3, by rw [Addr.add_block]; exact e4⟩;rw [Y1] at I;have hlt := (X9.1 I).1;have hu := X1 (l := ch) (i := l) om;obtain ⟨M, g2⟩ := f2 l lf _ I hu;have F : lf.m = .at_ .ro := g2.elim (·.1) (fun h => by rw [h]; rfl);refine ⟨by rw [F]; rfl, _, e5 l _ hu, ?_⟩;obtain ⟨t, y, m⟩ := lf;simp only at F;subst F;exact M
  | bor r' j p =>
   obtain ⟨hrep, ⟨O, u', ho, hp⟩, hb3⟩ := hlv;obtain ⟨A, V, ch, U, e2, e3, e4, e5, e6⟩ := Y93 hrep hk hsz;obtain ⟨f1, f2⟩ := Y1x te.ty (x := xs.getD k te.ty.dflt) (elemMode (.bor r' j p) k) 0 e6;have Y : p = [] -> ∃ e t G m B n V, O = ⟨.slice e t, G, m⟩ /\ u' = .slice (some ⟨B, 0, none⟩) n V /\ 0 <= (k : Int) /\ (k : Int).toNat < G.length /\ ∀ l, (A.add (k * te.ty.sz)).add l = ⟨B, (k : Int).toNat * t.sz + l, none⟩ := fun C => by
    obtain ⟨m, rfl, rfl⟩ := hp C
    -- the row of the place itself
    have hrow : ∃ B D, evT a.tmps x = .slice (some ⟨B, 0, none⟩) xs.length D := by
     have hlr := (E.av r');obtain ⟨M, g2, g3⟩ := ho;cases hev : (SS env noP a.tmps vs w cs bs).env r' with
     | con kk ls =>
      rw [hev] at hlr M;have h4 := hlr.2.2.2 j _ _ M g3;cases m with
      | bor _ _ _ => simp [Mode.own] at g2
      | dead => simp [Mode.own] at g2
      | at_ lv =>
       have hrp := h4.rep;obtain ⟨v', cs', b0, b1, q1, _, _, q2⟩ := hrp;have q1 : evT a.tmps x = v' := by simpa using q1
       rw [q1];have own : (SS env noP a.tmps vs w cs bs).w.ownsRow 0 te.id te.ty.sz v' xs.length cs' := by
        cases lv with
        | ro => simp [Mode.own] at g2
        | sh => exact q2.2
        | dp => exact q2.2
        | pn _ => exact q2.2
       rcases own.2 with ⟨_, h0⟩ | ⟨g, cap, cur, q3, _⟩
       ·omega
       ·exact ⟨g, cap, q3⟩
     | _ => rw [hev] at M; simp [AV.leaf?] at M
    obtain ⟨B, D, q⟩ := hrow;have hA : A = ⟨B, 0, none⟩ := by rw [q] at U; simp at U; exact U.1.symm
    exact ⟨te.id, te.ty, xs, m, B, xs.length, D, rfl, q, om, by simpa using hk, fun l => by rw [hA, Y16, Y16]; simp⟩
   refine ⟨A, V, U, [], _, rfl, fun l lf I => ?_, ⟨by rw [Addr.add_block]; exact e3, by rw [Addr.add_block]; exact e4⟩, O, u', ho, fun C => ?_, fun i0 o0 z C => ?_⟩
   ·rw [Y1] at I;have hlt := (X9.1 I).1;have hu := X1 (l := ch) (i := l) om;obtain ⟨M, g2⟩ := f2 l lf _ I hu;obtain ⟨t, y, m⟩ := lf;rcases g2 with ⟨F, hf⟩ | F
    ·simp only at F hf M;subst F;exact ⟨rfl, _, e5 l _ hu, (Rep.flat hf M).2⟩
    ·simp only [elemMode, Xx] at F M;subst F;refine ⟨rfl, _, e5 l _ hu, M, ⟨O, u', ho, fun h => by simp at h⟩, fun i o N => ?_⟩;have N : p ++ [((k : Int), l)] = [(i, o)] := N;cases p with
     | cons p0 p => simp at N
     | nil =>
      simp only [X2l, X37, X10, and_true] at N;obtain ⟨rfl, rfl⟩ := N;obtain ⟨e, t', G, m, B, n, D, s1, s2, s3, s4, s5⟩ := Y rfl;exact ⟨_, ⟨⟨by rw [Addr.add_block, Addr.add_block]; exact e3, by rw [Addr.add_block, Addr.add_block]; exact e4⟩, O, u', ho, (fun _ => ⟨e, t', G, m, B, n, D, s1, s2, s3, s4, s5 l⟩), fun _ _ _ e => by cases e⟩, e5 l _ hu⟩
   ·have C : p = [] := by
     cases p with
     | nil => rfl
     | cons q p => cases p <;> simp [nestP] at C
    obtain ⟨e, t', G, m, B, n, D, s1, s2, s3, s4, s5⟩ := Y C;refine ⟨e, t', G, m, B, n, D, s1, s2, s3, s4, ?_⟩;have := s5 0
    rwa [Y5v, X2h] at this
   ·have C : p = [(i0, o0)] /\ z = te.ty.sz := by
     cases p with
     | nil => simp [nestP] at C
     | cons q p =>
      cases p with
      | nil =>
       simp only [nestP, X37, X10, true_and, and_true] at C;exact ⟨by rw [C.1], C.2.symm⟩
      | cons q2 p => simp [nestP] at C
    obtain ⟨a0, ⟨⟨w1, w2⟩, lf2, u2, w3, w4⟩, w5⟩ := hb3 i0 o0 C.1;obtain rfl : O = lf2 := Xj (ho.1.symm.trans w3.1);obtain rfl : u' = u2 := Xj (ho.2.2.symm.trans w3.2.2);obtain ⟨e, t', G, m, B, n, D, s1, s2, s3, s4, s5⟩ := w4.1 rfl;subst s5;exact ⟨e, t', G, m, B, n, D, A, xs.length, V, s1, s2, ⟨s3, s4⟩, ⟨w1, w2⟩, by rw [<- U]; exact w5, ⟨om, by simpa using hk⟩, by rw [C.2, Int.toNat_natCast, X2h]⟩
 obtain ⟨vs, h0'⟩ := hr;have hr : RE c env a.tmps w := ⟨vs, h0'⟩;obtain ⟨cs, bs, E, _⟩ := h0'.rel;obtain ⟨A, V, U, _⟩ := X vs cs bs E;refine finV hr hdst (v := .pointer (some (A.add (k * te.ty.sz)))) ?_ hd (fun vs cs bs E => ?_) ?_ hK hn
 ·have hsize : (Go.sizeOf te.id).run P w = .ok te.ty.sz w := by simp [Go.sizeOf, typeInfo, hi0, hi1]
  simp [execOp, hop, Y4, U, hr.int1 hi, Instr.indexAt, asIntOf, run_underlying hund, hsize, hk]
 ·obtain ⟨A', D, Z, h⟩ := X vs cs bs E;rw [U] at Z;have : A = A' := by simp at Z; exact Z.1
  subst this;exact h
 ·have hrf := hr.refs (some (.slice te.id te.ty)) x;rw [hx] at hrf;have W : ∀ q : Nat × Nat, (∃ p, lx.m = .bor q.1 q.2 p) -> q.1 < env.length := by
   rintro q ⟨p, hp⟩
   exact hrf.1 q (by simp only [AV.refs, X1t, List.flatMap_nil, Xg, Leaf.refs, hp, Xb])
  refine ⟨fun q L => ?_, by simp [AV.ptrs]⟩;simp only [AV.refs, X6] at L;rcases L with L | L
  ·obtain ⟨l, p, hp⟩ := Y49 _ _ _ _ q L;exact W q (Y8j q ⟨p, hp⟩)
  ·cases hm : lx.m with
   | bor r' j p =>
    rw [hm] at L;simp only [Xb] at L;rw [L];exact W (r', j) ⟨p, hm⟩
   | at_ lv => rw [hm] at L; simp at L
   | dead => rw [hm] at L; simp at L
end
def mkV (agg : Bool) (b : List Value) : Value := if agg then .agg b.toArray else b.headD undef
theorem Y22 : ∀ t : Ty, (flat t).length = t.sz
 | .int _ => rfl
 | .bool => rfl
 | .str => rfl
 | .slice _ _ => rfl
 | .unit => rfl
 | .pair a b => by simp [flat, Ty.sz, Y22 a, Y22 b]
theorem Y2e (h : t.isAgg = false) : t.sz = 1 := by cases t <;> first | rfl | simp [Ty.isAgg] at h
theorem Y12 (h : typedAs ls t = true) : ls.length = t.sz := by
 have : ls.map Leaf.t = flat t := by simpa [typedAs] using h
 rw [<- Y22, <- this, X26]
theorem Y1n {agg : Bool} {b : List Value} (h : agg = false -> b.length = 1) : KCells c w [] (if agg then .agg else .val) (mkV agg b) b := by
 cases agg with
 | true => exact ⟨rfl, rfl⟩
 | false =>
  obtain ⟨u, rfl⟩ := X1h.1 (h rfl);exact ⟨rfl, rfl⟩
section
variable {P : Program} {o : Oper} {a : Act} {w : World} {R : Type} {K : Env -> Option R} {r : R} {next : Act -> World -> Prop} {Q : Exit -> Act -> World -> Prop} {c : Cx} {d : Nat} {T : Tab} {env : Env}
theorem Y4l (hT : TabOk P T) {t : TypeId} (h : T.ty t = some τ) {x : Addr} {g : List Value} (l : g.length = τ.sz) (i : ∀ (j : Nat) (u : Value), g[j]? = some u -> w.cell? (x.add j) = some u) : (Instr.loadAt t (.pointer (some x))).run P w = .ok (mkV τ.isAgg g) w := by
 unfold Instr.loadAt loadVar;cases b : τ.isAgg with
 | true =>
  have := run_loadCells_list (P := P) (w := w) x g i;simp [Instr.sureAddr, TabOk.agg hT h, TabOk.sizeOf hT h, b, <- l, this, mkV]
 | false =>
  have m := Y2e b;obtain ⟨u, rfl⟩ := X1h.1 (l.trans m);have := i 0 u rfl;simp [Instr.sureAddr, TabOk.agg hT h, b, load, Sem.run, mkV];rw [show x.add 0 = x from rfl] at this;rw [this]
theorem Y95 (hT : TabOk P T) {t : TypeId} {r' off : Nat} {e : BoxK} (V : o.op = .load t x) (F : o.dst = some d) (M : RE c env a.tmps w) (hd : d < env.length) (ht : T.ty t = some τ) (hx : rd none env x = .path r' off) (O : get env r' = .con (.box e) ls)
  (W : typedAs (takeLs τ.sz (dropLs off ls)) τ = true) (hK : K (setD (some d) env (mkCon τ.isAgg (borrowFrom r' off (takeLs τ.sz (dropLs off ls))))) = some r) (hn : Next c a K r env.length next) : o.wp P a w next Q := by
 have m := Y12 W;have A : r' < env.length := Yw O;have p : ∀ vs cs bs, Rel c (SS env noP a.tmps vs w cs bs) -> ∃ B i, evT a.tmps x = .pointer (some ⟨B, off, none⟩) /\ i.length = τ.sz /\ (∀ (j : Nat) (u : Value), i[j]? = some u -> w.cell? ((⟨B, off, none⟩ : Addr).add j) = some u) /\
   ValC c (SS env noP a.tmps vs w cs bs) (mkCon τ.isAgg (borrowFrom r' off (takeLs τ.sz (dropLs off ls)))) (mkV τ.isAgg i) i := by
  intro vs cs bs b;obtain ⟨cells, hv⟩ := M.val none x vs cs bs b;rw [hx] at hv;obtain ⟨e', ls', B, g1, g2, g3⟩ := hv;have E : (SS env noP a.tmps vs w cs bs).env r' = .con (.box e) ls := by show ovl env noP r' = _; rw [Y7 A]; exact O
  have D := b.av r';rw [E] at D;obtain ⟨⟨N, k1, k2, k3⟩, h2, h3, h4⟩ := D;rw [g2] at k1;have : B = N := by simpa using k1
  subst this;have y : (takeLs τ.sz (dropLs off ls)).length = (((cs r').drop off).take τ.sz).length := by
   rw [Yn, Yr, Xp, X15, Xp, X15, h2]
  refine ⟨B, ((cs r').drop off).take τ.sz, g3, by rw [<- y]; exact m, fun j u C => ?_, ?_, by rw [Y21]; exact y, fun l lf u I C => ?_⟩
  ·have G : j < τ.sz := by have := (X9.1 C).1; simp at this; omega
   rw [X1f, X3 G, X1l] at C;rw [Y16];unfold World.cell?;rw [k2];simpa using C
  ·exact Y1n (fun h => by rw [<- y, m]; exact Y2e h)
  ·rw [Y1, Y1h] at I;obtain ⟨L, g, rfl⟩ := Xt.1 I;have G : l < τ.sz :=gr;rw [Yn, Yr, X1f, X3 G, X1l] at g;rw [X1f, X3 G, X1l] at C;have := Y62 E g C (h4 _ _ _ (by rw [Y1]; exact g) C);exact LeafV.of_held this.1 this.2
 obtain ⟨vs, Z⟩ := M;have M : RE c env a.tmps w := ⟨vs, Z⟩;obtain ⟨cs, bs, b, U⟩ := Z.rel;obtain ⟨B, i, X, e2, e3, e4⟩ := p vs cs bs b;refine finV M F (v := mkV τ.isAgg i) ?_ hd (fun vs cs bs b => ?_) ?_ hK hn
 ·simp [execOp, V, Y4, X, Y4l hT ht e2 e3]
 ·obtain ⟨N, ch', Y, f2, f3, f4⟩ := p vs cs bs b;rw [X] at Y;have : B = N := by simpa using Y
  subst this;have : i = ch' := by
   apply X1u;intro j;by_cases G : j < τ.sz
   ·grind
   ·grind
  subst this;exact ⟨i, f4⟩
 ·refine ⟨fun q z => ?_, by simp [mkCon, AV.ptrs]⟩;simp only [mkCon, AV.refs, Xi] at z;obtain ⟨lf, hm, z⟩ := z;obtain ⟨l, I⟩ := Xz hm;rw [Y1h] at I;obtain ⟨L, g, rfl⟩ := Xt.1 I;split at z
  ·simp [Leaf.refs] at z;rw [z]; exact A
  ·have := (U r').1 q;rw [Y7 A, O] at this;refine this ?_;simp only [AV.refs, Xi];rw [Yn, Yr] at g;exact ⟨L, X2j (X2k (Xa g)), z⟩
theorem Y96 (hT : TabOk P T) {t : TypeId} {wr : Option (Nat × Nat × List (Int × Nat) × Int × Nat)} (D : o.op = .load t x) (A : o.dst = some d) (B : RE c env a.tmps w) (hd : d < env.length) (ht : T.ty t = some τ) (O : rd none env x = .eptr ls wr)
  (E : typedAs (takeLs τ.sz ls) τ = true) (Y : K (setD (some d) env (mkCon τ.isAgg (takeLs τ.sz ls))) = some r) (hn : Next c a K r env.length next) : o.wp P a w next Q := by
 have i := Y12 E;have m : ∀ vs cs bs, Rel c (SS env noP a.tmps vs w cs bs) -> ∃ g, evT a.tmps x = .pointer (some g) /\ ∀ l lf, leafAt ls l = some lf -> lf.m.own = false /\ ∃ u, w.cell? (g.add l) = some u /\ Held c (SS env noP a.tmps vs w cs bs) u lf := by
  intro vs cs bs b;obtain ⟨cells, N⟩ := B.val none x vs cs bs b;rw [O] at N;obtain ⟨g, W, X, g3⟩ := N;exact ⟨g, W, X⟩
 obtain ⟨vs, I⟩ := B;have B : RE c env a.tmps w := ⟨vs, I⟩;obtain ⟨cs, bs, b, hno⟩ := I.rel;obtain ⟨g, F, U⟩ := m vs cs bs b;have hll : τ.sz <= ls.length := by rw [Yn, Xp] at i; omega
 let y := (List.range τ.sz).map fun l => (w.cell? (g.add l)).getD undef
 have Z : ∀ l < τ.sz, ∃ u, y[l]? = some u /\ w.cell? (g.add l) = some u := by
  intro l L;obtain ⟨_, u, M, _⟩ := U l _ (by rw [Y1]; exact X1 om);exact ⟨u, gr⟩
 have p : y.length = τ.sz := by simp [y]
 have z : ∀ (j : Nat) (u : Value), y[j]? = some u -> w.cell? (g.add j) = some u :=gr;refine finV B A (v := mkV τ.isAgg y) ?_ hd (fun vs cs bs b => ?_) ?_ Y hn
 ·simp [execOp, D, Y4, F, Y4l hT ht p z]
 ·obtain ⟨x1, G, V⟩ := m vs cs bs b;rw [F] at G;have : g = x1 := by simpa using G
  subst this;refine ⟨y, Y1n (fun h => by rw [p]; exact Y2e h), by rw [i, p], fun l lf u L M => ?_⟩;have C := Y48 L;obtain ⟨k1, u', k2, k3⟩ := V l lf C;have := z l u M;rw [k2] at this;have : u' = u :=gr;subst this;exact LeafV.of_held k1 k3
 ·have := B.refs none x;rw [O] at this;exact ⟨fun q hq => this.1 q (by simp only [AV.refs, X6]; exact .inl (Y53 _ _ q hq)), by simp [mkCon, AV.ptrs]⟩
theorem Yd4 (hT : TabOk P T) {t : TypeId} (g : T.ty t = some τ) {cs : List Value} {off : Nat} (j : off + τ.sz <= cs.length) : (part t cs.toArray off).run P w = .ok (mkV τ.isAgg ((cs.drop off).take τ.sz)) w := by
 unfold part;cases b : τ.isAgg with
 | true =>
  simp [TabOk.agg hT g, TabOk.sizeOf hT g, b, mkV]
 | false =>
  have h := Y2e b;have : cs[off]? = some cs[off] := X1 om;have i : (cs.drop off).take 1 = [cs[off]] := by
   rw [List.drop_eq_getElem_cons om];rfl
  simp [TabOk.agg hT g, b, mkV, this, h, i]
theorem Yd5 (hT : TabOk P T) {s : TypeId} {f off : Nat} (C : o.op = .field s x f) (m : o.dst = some d) (j : RE c env a.tmps w) (W : d < env.length) (X : fieldAt T s f = some (off, τ)) (F : rd none env x = .con .agg ls)
  (D : typedAs (takeLs τ.sz (dropLs off ls)) τ = true) (V : K (setD (some d) env (mkCon τ.isAgg (takeLs τ.sz (dropLs off ls)))) = some r) (hn : Next c a K r env.length next) : o.wp P a w next Q := by
 have i := Y12 D;obtain ⟨fs, z, N, O, rfl, U, h5⟩ := TabOk.field hT X;have hll : z.offset + τ.sz <= ls.length := by
  rw [Yn, Yr, Xp, X15] at i;omega
 obtain ⟨vs, I⟩ := j;have j : RE c env a.tmps w := ⟨vs, I⟩;obtain ⟨cs, bs, b, hno⟩ := I.rel;obtain ⟨cells, L⟩ := j.val none x vs cs bs b;rw [F] at L;obtain ⟨⟨G, _⟩, e2, e3⟩ := L;refine finV j m (v := mkV τ.isAgg ((cells.drop z.offset).take τ.sz)) ?_ W (fun vs cs bs b => ?_) ?_ V hn
 ·have hp := Yd4 (w := w) hT U (cs := cells) (off := z.offset) om;simp [execOp, C, Y4, G, Instr.field, run_underlying N, O, asAgg, hp]
 ·obtain ⟨g, y⟩ := j.val none x vs cs bs b;rw [F] at y;obtain ⟨⟨A, _⟩, M, B⟩ := y;rw [G] at A;have : cells = g :=gr;subst this;refine ⟨(cells.drop z.offset).take τ.sz, Y1n (fun h => by rw [Xp, X15, Y2e h]; have := Y2e h; omega), by rw [i, Xp, X15]; omega, fun l lf u Z E => ?_⟩;have p := Y48 Z;rw [Y47] at p;have Y : l < τ.sz := by have := (X9.1 E).1; simp at this; omega
  rw [X1f, X3 Y, X1l] at E;exact B _ _ _ p E
 ·have := j.refs none x;rw [F] at this;exact ⟨fun q hq => this.1 q (Y52 _ _ q (Y53 _ _ q hq)), by simp [mkCon, AV.ptrs]⟩
theorem Y6z : ∀ {b : List (Bool × Nat)} {vs cs : List Value} {i off n : Nat} {agg : Bool}, TupCells b vs cs -> tupOff b i = some (off, agg, n) -> ∃ v, vs[i]? = some v /\ off + n <= cs.length /\ v = mkV agg ((cs.drop off).take n) /\ (agg = false -> n = 1)
 | [], vs, cs, i, off, n, agg, h, ho => by simp [tupOff] at ho
 | (ag, m) :: b, vs, cs, 0, off, n, agg, ⟨v, vs', c0, cs', e1, e2, hl, hv, ht⟩, ho => by
  subst e1; subst e2;simp [tupOff] at ho;obtain ⟨rfl, rfl, rfl⟩ := ho;refine ⟨v, rfl, by simp [hl], ?_, ?_⟩
  ·rw [List.drop_zero, <- hl, List.take_left];cases ag with
   | true => simpa [mkV] using hv
   | false => simp at hv; rw [hv.1]; rfl
  ·grind
 | (ag, m) :: b, vs, cs, i + 1, off, n, agg, ⟨v, vs', c0, cs', e1, e2, hl, hv, ht⟩, ho => by
  subst e1; subst e2;simp [tupOff] at ho;split at ho
  ·rename_i j q g;simp at ho;obtain ⟨rfl, rfl⟩ := ho;obtain ⟨z, l, A, p, y⟩ := Y6z ht g;refine ⟨z, l, by simp [hl]; omega, ?_, y⟩;rw [p, List.drop_append, X2s (show c0.length <= m + j by omega), X2l, show m + j - c0.length = j by omega]
  ·simp at ho
theorem Y8k {s i off n : Nat} {agg : Bool} {E : List (Bool × Nat)} (I : o.op = .extract (.tmp s) i) (z : o.dst = some d) (D : RE c env a.tmps w) (hd : d < env.length) (M : get env s = .con (.tup E) ls) (X : tupOff E i = some (off, agg, n))
  (B : (takeLs n (dropLs off ls)).any (fun l => l.m.own) = false) (hK : K (setD (some d) env (mkCon agg (takeLs n (dropLs off ls)))) = some r) (hn : Next c a K r env.length next) : o.wp P a w next Q := by
 have m : s < env.length := Yw M;have j : ∀ vs cs bs, Rel c (SS env noP a.tmps vs w cs bs) -> ∃ p, evT a.tmps (.tmp s) = .tuple p.toArray /\ TupCells E p (cs s) /\ ls.length = (cs s).length /\ ∀ l lf u, leafAt ls l = some lf -> (cs s)[l]? = some u -> LeafRel c (SS env noP a.tmps vs w cs bs) s l u lf := by
  intro vs cs bs b;have y := b.av s;have C : (SS env noP a.tmps vs w cs bs).env s = .con (.tup E) ls := by show ovl env noP s = _; rw [Y7 m]; exact M
  have F : (SS env noP a.tmps vs w cs bs).tm s = evT a.tmps (.tmp s) := X3 (D.choose_spec.len ▸ m);rw [C, F] at y;obtain ⟨⟨_, p, h1, h2⟩, h3, _, h4⟩ := y;exact ⟨p, h1, h2, h3, h4⟩
 obtain ⟨vs, V⟩ := D;have D : RE c env a.tmps w := ⟨vs, V⟩;obtain ⟨cs, bs, b, g⟩ := V.rel;obtain ⟨p, C, F, e3, e4⟩ := j vs cs bs b;obtain ⟨v, O, f2, f3, f4⟩ := Y6z F X;refine finV D z (v := v) ?_ hd (fun vs cs bs b => ?_) ?_ hK hn
 ·simp [execOp, I, Y4, C, Instr.extract, O]
 ·obtain ⟨N, U, g2, g3, g4⟩ := j vs cs bs b;rw [C] at U;have : p = N := by simpa using U
  subst this;obtain ⟨v', Z, k2, k3, k4⟩ := Y6z g2 X;rw [O] at Z;have : v = v' := by simpa using Z
  subst this;have G : (takeLs n (dropLs off ls)).length = (((cs s).drop off).take n).length := by rw [Yn, Yr, Xp, X15, Xp, X15, g3]
  refine ⟨((cs s).drop off).take n, ?_, G, fun l lf u W Y => ?_⟩
  ·rw [k3];exact Y1n (fun h => gr)
  ·have A := Y48 W;rw [Y47] at A;have hj : l < n :=gr;rw [X1f, X3 hj, X1l] at Y;have L := g4 _ _ _ A Y;have g : lf.m.own = false := by
    cases hb : lf.m.own with
    | false => rfl
    | true =>
     have : (takeLs n (dropLs off ls)).any (fun l => l.m.own) = true := X1m.2 ⟨lf, Y9 W, hb⟩;rw [B] at this;simp at this
   exact LeafV.of_held g (L.held g).2
 ·have := g s;rw [Y7 m, M] at this;exact ⟨fun q hq => this.1 q (Y52 _ _ q (Y53 _ _ q hq)), by simp [mkCon, AV.ptrs]⟩
theorem Y97 (b : env.length = tmps.size) (h : Rel c (SS env noP tmps vs w cs bs)) : ∀ {xs : List Operand} {ps : List (Nat × Nat)}, xs.mapM (fun x => match rd none env x with | .path r off => some (r, off) | _ => none) = some ps -> PtrRels (SS env noP tmps vs w cs bs) ps (xs.map (evT tmps))
 | [], ps, hm => by simp at hm; subst hm; rfl
 | x :: xs, ps, hm => by
  rw [X2o] at hm;cases j : rd none env x with
  | path r off =>
   rw [j] at hm;cases g : xs.mapM (fun x => match rd none env x with | .path r off => some (r, off) | _ => none) with
   | none => simp_all
   | some l =>
    rw [g] at hm;simp at hm;subst hm;obtain ⟨cells, i⟩ := Ye b h none x;rw [j] at i;exact ⟨_, _, rfl, i, Y97 b h g⟩
  | _ => grind
theorem Yay (i : RE c env a.tmps w) : ∀ {xs : List Operand} {ps : List (Nat × Nat)}, xs.mapM (fun x => match rd none env x with | .path r off => some (r, off) | _ => none) = some ps -> ∀ q ∈ ps.map (·.1), q < env.length
 | [], ps, hm => gr
 | x :: xs, ps, hm => by
  rw [X2o] at hm;cases j : rd none env x with
  | path r off =>
   rw [j] at hm;cases b : xs.mapM (fun x => match rd none env x with | .path r off => some (r, off) | _ => none) with
   | none => grind
   | some l =>
    rw [b] at hm;simp at hm;subst hm;have h := i.refs none x;rw [j] at h;intro q g;simp only [X1r, Xw] at g;rcases g with rfl | g
    ·exact h.2 _ (by simp [AV.ptrs])
    ·exact Yay i b q g
  | _ => simp_all
theorem Yag {first b : Array Operand} {ps : List (Nat × Nat)} (j : o.op = .makeFunc (.func f) first b) (g : o.dst = some d) (l : RE c env a.tmps w) (y : d < env.length) (z : first.size = 0)
  (m : b.toList.mapM (fun x => match rd none env x with | .path r off => some (r, off) | _ => none) = some ps) (p : K (setD (some d) env (.clo f ps)) = some r) (A : Next c a K r env.length next) : o.wp P a w next Q := by
 have i : first = #[] := Array.eq_empty_of_size_eq_zero z
 refine finV l g (av := .clo f ps) (v := .func (.func f) #[] (b.map (evT a.tmps))) ?_ y (fun vs cs bs h => ⟨[], b.toList.map (evT a.tmps), by rw [<- X33, X1n], Y97 l.choose_spec.len h m⟩) ⟨by simp [AV.refs], fun q B => Yay l m q (by simpa [AV.ptrs] using B)⟩ p A;simp [execOp, j, Y4, i, Instr.makeFunc]
end
theorem Rep.dpS {S S' : Nat -> Prop} {w : World} : ∀ {t : Ty} {cs : List Value} {x : t.D} {bs : List Nat}, Rep S w t .dp cs x bs -> Rep S' w t .dp cs x bs
 | .int k, _, _, _, h => h
 | .bool, _, _, _, h => h
 | .str, _, _, _, h => h
 | .slice e t, _, _, _, ⟨v, xs, b0, b1, h1, h2, h3, h4⟩ => ⟨v, xs, b0, b1, h1, h2, El.imp (fun c x b _ h => Rep.dpS h) h3, h4⟩
 | .unit, _, _, _, h => h
 | .pair a b, _, _, _, ⟨c1, c2, b1, b2, h1, h2, h3, h4⟩ => ⟨c1, c2, b1, b2, h1, h2, Rep.dpS h3, Rep.dpS h4⟩
theorem Rel.reform (h : Rel c s) {n m : Nat} (W : ∀ r, (∀ q ∈ (s.env r).refs, q.1 ≠ n /\ q.1 ≠ m) /\ (∀ q ∈ (s.env r).ptrs, q ≠ n /\ q ≠ m)) (hb : Below c.base s.w w')
  (y : ∀ b, b < s.w.heap.size -> (∀ l, b ∉ s.bs n l) -> w'.heap[b]? = s.w.heap[b]?) (av : AV) (v : Value) (cd : List Value) (A : Nat -> List Nat)
  (N : ∀ l b, b ∈ A l -> b < w'.heap.size /\ (s.w.heap.size <= b \/ ∃ z, b ∈ s.bs n z \/ b ∈ s.bs m z)) (U : ∀ l z b, b ∈ A l -> b ∈ A z -> l = z) (hnd : ∀ l, (A l).Nodup)
  (M : let s' : St := ⟨upd (upd s.env m .undef) n av, upd s.tm n v, w', upd s.cs n cd, upd (upd s.bs m (fun _ => [])) n A⟩; Keeps c s s' -> AVRel c s' n av v) :
  Rel c ⟨upd (upd s.env m .undef) n av, upd s.tm n v, w', upd s.cs n cd, upd (upd s.bs m (fun _ => [])) n A⟩ := by
 let s' : St := ⟨upd (upd s.env m .undef) n av, upd s.tm n v, w', upd s.cs n cd, upd (upd s.bs m (fun _ => [])) n A⟩
 have i : ∀ r, ¬ (r = n \/ r = m) -> s'.env r = (s.env r).chg noG /\ s'.tm r = s.tm r /\ s'.cs r = s.cs r /\ s'.bs r = s.bs r := fun r g => by
  simp at g;refine ⟨by rw [AV.chg_no]; show upd _ _ _ r = _; rw [Y3 _ _ g.1, Y3 _ _ g.2], Y3 _ _ g.1, Y3 _ _ g.1, ?_⟩;show upd _ _ _ r = _;rw [Y3 _ _ g.1, Y3 _ _ g.2]
 have F : s'.bs n = A := Y0 _ _ _;have O : m ≠ n -> ∀ l, s'.bs m l = [] := fun hm l => by
  have : s'.bs m = fun _ => [] := by show upd _ _ _ m = _; rw [Y3 _ _ hm, Y0]
  rw [this]
 have G : ∀ r j, r ≠ n /\ r ≠ m -> SamePl s s' r j := fun r j g => by
  have C := i r (by simp; exact g);refine ⟨fun lf u ho => ho.chg C.1 C.2.2.1, by rw [C.2.2.2], fun b p => y b (h.own _ _ _ p).2 (fun l V => ?_)⟩;exact g.1 (h.disj _ _ _ _ _ p V).1
 have X : ∀ r, r ≠ n /\ r ≠ m -> SamePtr s s' r := fun r g => by
  have C := i r (by simp; exact g);exact SamePtr.chg C.1 C.2.1
 refine Rel.step (s' := s') noG h (fun r => r = n \/ r = m) (fun r _ => r ≠ n /\ r ≠ m) (fun r => r ≠ n /\ r ≠ m) i hb (fun b V B => y b V (fun l => B n l (.inl rfl)))
  (fun r l b B p => ?_) (fun r l r' z b B hD' D E => ?_) (fun r l B => ?_) (fun r _ => W r) (fun I => ⟨Yq I G, Y15 I G, fun r hL _ => X r hL⟩) (fun I r B => ?_)
 ·by_cases g : r = n
  ·subst g;rw [F] at p;obtain ⟨k1, k2⟩ := N l b p;exact ⟨k1, k2.imp id (fun ⟨z, k3⟩ => k3.elim (fun k => ⟨r, z, .inl rfl, k⟩) (fun k => ⟨m, z, .inr rfl, k⟩))⟩
  ·grind
 ·by_cases g : r = n
  ·by_cases Y : r' = n
   ·subst g; subst Y;rw [F] at D E;exact ⟨rfl, U _ _ _ D E⟩
   ·grind
  ·grind
 ·by_cases g : r = n
  ·simp_all
  ·grind
 ·by_cases g : r = n
  ·subst g;have L : s'.env r = av := Y0 _ _ _;have Z : s'.tm r = v := Y0 _ _ _;rw [L, Z];exact M I
  ·have e := B.resolve_left g;subst e;have L : s'.env r = .undef := by show upd _ _ _ r = _; rw [Y3 _ _ g, Y0]
   rw [L];exact O g
theorem RP.reform (h : RP c env tmps w ps vs) {n m : Nat} (A : env.length <= n) (F : env.length <= m) (G : av.refs = [] /\ av.ptrs = [])
  (I : ∀ cs bs, Rel c (SS env ps tmps vs w cs bs) -> Below c.base w w' /\ (∀ b, b < w.heap.size -> (∀ l, b ∉ bs n l) -> w'.heap[b]? = w.heap[b]?) /\ ∃ (cd : List Value) (g : Nat -> List Nat),
   (∀ l b, b ∈ g l -> b < w'.heap.size /\ (w.heap.size <= b \/ ∃ i, b ∈ bs n i \/ b ∈ bs m i)) /\ (∀ l i b, b ∈ g l -> b ∈ g i -> l = i) /\ (∀ l, (g l).Nodup) /\
   (let s' : St := ⟨upd (upd (ovl env ps) m .undef) n av, upd (ovlT tmps vs) n v, w', upd cs n cd, upd (upd bs m (fun _ => [])) n g⟩; Keeps c (SS env ps tmps vs w cs bs) s' -> AVRel c s' n av v)) :
  RP c env tmps w' (upd (upd ps m .undef) n av) (upd vs n v) := by
 obtain ⟨z, cs, bs, p, y⟩ := h;obtain ⟨D, E, cd, g, L, k2, M, N⟩ := I cs bs p;have j : ∀ r, (∀ q ∈ (ovl env ps r).refs, q.1 ≠ n /\ q.1 ≠ m) /\ (∀ q ∈ (ovl env ps r).ptrs, q ≠ n /\ q ≠ m) := fun r =>
  ⟨fun q B => by have := (y r).1 q B; omega, fun q B => gr⟩
 have C := p.reform j D E av v cd g L k2 M N;have e : upd (upd (ovl env ps) m .undef) n av = ovl env (upd (upd ps m .undef) n av) := by rw [Yc A, Yc F]
 refine ⟨z, _, _, Rel.congr C e (Y1b (z ▸ A) v).symm, fun r => ?_⟩;rw [<- e];simp only [upd];split
 ·grind
 ·split
  ·exact ⟨by simp [AV.refs], by simp [AV.ptrs]⟩
  ·exact y r
theorem Ya (h : ∀ l ∈ ls, l.m.settled = true) : (AV.con k ls).refs = [] /\ (AV.con k ls).ptrs = [] := Settled.refs (.inr ⟨k, ls, rfl, h⟩)
theorem Yaz (h : Rel c (SS env ps tmps vs w cs bs)) (b : env.length <= n) (g : ps n = .undef) : ∀ l, bs n l = [] := by
 have := h.av n;have e : (SS env ps tmps vs w cs bs).env n = .undef := by show ovl env ps n = _; rw [Ym b, g]
 rw [e] at this;exact this
theorem Yf {α : Type} (f : Nat -> α) (n : Nat) (x y : α) : upd (upd f n x) n y = upd f n y := by funext r; simp [upd]; split <;> rfl
section
variable {P : Program} {o : Oper} {a : Act} {w : World} {R : Type} {K : Env -> Option R} {r : R} {next : Act -> World -> Prop} {Q : Exit -> Act -> World -> Prop} {c : Cx} {d : Nat} {T : Tab} {env : Env}
theorem Y1p : ∀ t : Ty, (zeroCells t).length = t.sz
 | .int _ => rfl
 | .bool => rfl
 | .str => rfl
 | .slice _ _ => rfl
 | .unit => rfl
 | .pair a b => by simp [zeroCells, Ty.sz, Y1p a, Y1p b]
theorem Y24 (t : Ty) : (zeroVal t).cells.toList = zeroCells t := by
 cases t <;> simp [zeroVal, Ty.isAgg, zeroCells, Value.cells, undef]
theorem Y35 (S : Nat -> Prop) (w : World) (τ : Ty) : (zeros τ).length = (zeroCells τ).length /\ (∀ lf ∈ zeros τ, lf.m.settled = true) /\
  ∀ (l : Nat) (lf : Leaf) (u : Value), (zeros τ)[l]? = some lf -> (zeroCells τ)[l]? = some u -> ∃ m, lf.m = .at_ m /\ Rep S w lf.t m [u] lf.x [] := by
 obtain ⟨h, i, g, B, j, p⟩ := Y2d .dp τ 0 (Rep.zero S w τ .dp);refine ⟨h, i, fun l lf u y z => ?_⟩;obtain ⟨m, A, k2⟩ := p l lf u y z;refine ⟨m, A, ?_⟩;have : g.getD l [] = [] := by
  rw [Xh];cases q : g[l]? with
  | none => rfl
  | some b =>
   have := List.flatten_eq_nil_iff.1 j.symm b (Xa q);rw [this]; rfl
 rw [this] at k2;exact k2
theorem Y4a (w : World) (o : Obj) : (w.alloc o).heap[w.heap.size]? = some o := by
 show (w.heap.push o)[w.heap.size]? = _;simp
theorem Yp (w : World) (o : Obj) : Below w.heap.size w (w.alloc o) := (X1i _ _).alloc (Xn _) o
theorem Y3g (w : World) (o : Obj) : (w.alloc o).heap.size = w.heap.size + 1 := by show (w.heap.push o).size = _; simp
theorem RP.boxed (h : RP c env tmps w ps vs) (L : env.length <= n) (hp : ps n = .con k ls) (M : ∀ l ∈ ls, l.m.settled = true) (I : k.plain = true) (e : TypeId) {cells : Array Value} (p : cells = (vs n).cells) :
  RP c env tmps (w.alloc (.cells cells e (0, 0))) (upd ps n (.con (.box ⟨e, false, []⟩) ls)) (upd vs n (.pointer (some ⟨w.heap.size, 0, none⟩))) := by
 have := h.reform (m := n) L L (av := .con (.box ⟨e, false, []⟩) ls) (v := .pointer (some ⟨w.heap.size, 0, none⟩)) (w' := w.alloc (.cells cells e (0, 0))) (Ya M) (fun cs bs A => ?_)
 ·rw [Yf] at this;exact this
 ·have E := A.av n;have W : (SS env ps tmps vs w cs bs).env n = .con k ls := by show ovl env ps n = _; rw [Ym L, hp]
  have X : (SS env ps tmps vs w cs bs).tm n = vs n := X5 (by have := h.len; omega);rw [W, X] at E;obtain ⟨N, O, Y, U⟩ := E;have G : (cs n) = cells.toList /\ bs n 0 = [] := by
   cases k with
   | val =>
    obtain ⟨y, D⟩ := N;refine ⟨?_, D⟩;have F : cs n = [vs n] := y;rw [F, p]
    -- one cell
    have Z : ls.length = 1 := by rw [O, y]; rfl
    have := U 0 _ (vs n) (by rw [Y1]; exact X1 om) (by rw [y]; rfl);have z : (vs n).oneCell' = true := by
     generalize ls[0]' om = lf at this;obtain ⟨t, x, m⟩ := lf;cases m with
     | at_ lv => exact Rep.one this.rep _ sm
     | bor _ _ _ => exact Held.one this.2
     | dead => exact this.2
    cases hv : vs n <;> first | rfl | (rw [hv] at z; simp [Value.oneCell'] at z)
   | agg =>
    obtain ⟨y, D⟩ := N;refine ⟨?_, D⟩;rw [p, y];simp [Value.cells]
   | tup sh => simp [Kind.plain] at I
   | box e => simp [Kind.plain] at I
   | tupB i n sh => simp [Kind.plain] at I
  refine ⟨(Yp _ _).mono A.base, fun b g _ => (Yp _ _).block b g, cs n, fun l => if l = 0 then [w.heap.size] else bs n l, fun l b g => ?_, fun l l' b g q => ?_, fun l => ?_, fun B => ?_⟩
  ·by_cases j : l = 0
   ·subst j;simp only [X1j, Xb] at g;rw [g, Y3g];exact ⟨om, .inl (Xn _)⟩
   ·simp only [X5 j] at g;rw [Y3g];exact ⟨by have : b < w.heap.size := (A.own _ _ _ g).2; omega, .inr ⟨l, .inl g⟩⟩
  ·by_cases j : l = 0 <;> by_cases C : l' = 0
   ·omega
   ·simp only [j, C, X1j, X12, Xb] at g q;have : b < w.heap.size := (A.own _ _ _ q).2;omega
   ·simp only [j, C, X1j, X12, Xb] at g q;have : b < w.heap.size := (A.own _ _ _ g).2;omega
   ·simp only [j, C, X12] at g q;exact (A.disj _ _ _ _ _ g q).2
  ·by_cases j : l = 0
   ·simp [j]
   ·simp only [j, X12]; exact A.nodup _ _
  ·refine ⟨⟨w.heap.size, rfl, ?_, by simp [upd, nthB]⟩, by simp only [Y0]; exact O, fun l j => ?_, fun l lf u j V => ?_⟩
   ·simp only [Y0];rw [G.1, X1n];exact Y4a _ _
   ·simp only [Y0];rw [X5 om];exact Y l j
   ·simp only [Y0] at V;have y := U l lf u j V;obtain ⟨t, x, m⟩ := lf;cases m with
    | at_ lv =>
     have D := y.rep;refine LeafRel.of_rep y.pin ?_;simp only [Y0, X5 (show l + 1 ≠ 0 by omega)];exact Rep.move (fun b g j => B b g j) (fun b g => (Yp _ _).block b (A.own _ _ _ g).2) D
    | bor _ _ _ => have := M _ (Y9 j); simp [Mode.settled] at this
    | dead => have := M _ (Y9 j); simp [Mode.settled] at this
theorem Yd6 (hT : TabOk P T) (z : o.op = .alloc e) (i : o.dst = some d) (L : RE c env a.tmps w) (F : d < env.length) (G : T.ty e = some τ) (D : K (setD (some d) env (.con (.box ⟨e, false, []⟩) (zeros τ))) = some r) (I : Next c a K r env.length next) : o.wp P a w next Q := by
 obtain ⟨vs, h⟩ := L;have A := h.reform (n := env.length) (m := env.length) (Xn _) (Xn _) (av := .con (.box ⟨e, false, []⟩) (zeros τ)) (v := .pointer (some ⟨w.heap.size, 0, none⟩)) (w' := w.alloc (.cells (zeroVal τ).cells e (0, 0))) (Ya (Y35 (fun _ => True) w τ).2.1) (fun cs bs j => ?_)
 ·refine fin i (v := .pointer (some ⟨w.heap.size, 0, none⟩)) (w' := w.alloc (.cells (zeroVal τ).cells e (0, 0))) ?_ F rfl (by rw [Yf] at A; exact A) (Y0 _ _ _) D I;simp [execOp, z, Instr.alloc, TabOk.zero hT G, newVar, newRow, newObj, Sem.run]
  try rfl
 ·obtain ⟨M, U, N⟩ := Y35 (RoS c ⟨upd (upd (ovl env noP) env.length .undef) env.length (.con (.box ⟨e, false, []⟩) (zeros τ)), upd (ovlT a.tmps vs) env.length (.pointer (some ⟨w.heap.size, 0, none⟩)), w.alloc (.cells (zeroVal τ).cells e (0, 0)), upd cs env.length (zeroCells τ), upd (upd bs env.length (fun _ => [])) env.length (fun l => if l = 0 then [w.heap.size] else [])⟩) (w.alloc (.cells (zeroVal τ).cells e (0, 0))) τ;refine ⟨(Yp _ _).mono j.base, fun b p _ => (Yp _ _).block b p, zeroCells τ, fun l => if l = 0 then [w.heap.size] else [], fun l b p => ?_, fun l O b p E => ?_, fun l => ?_, fun q => ?_⟩
  ·simp_all
  ·grind
  ·grind
  ·refine ⟨⟨w.heap.size, rfl, ?_, by simp [upd, nthB]⟩, by simp [Y0]; exact M, fun l y => ?_, fun l lf u y B => ?_⟩
   ·simp only [Y0];rw [<- Y24, X1n];exact Y4a _ _
   ·simp only [Y0];rw [X5 om]
   ·simp [Y0] at B;obtain ⟨m, C, k2⟩ := N l lf u (by rw [<- Y1]; exact y) B;obtain ⟨t, x, m'⟩ := lf;simp only at C;have g := Y1r (lv := .dp) τ τ.dflt 0 _ (Y9 y);subst C;refine LeafRel.of_rep (Y92 rfl g trivial) ?_;simp only [Y0, X5 (show l + 1 ≠ 0 by omega)];exact k2
theorem Y1s {env' : Env} (b : takeAs τ env x = some (env', ls)) : takeIn (some τ) env x = some (env', .con τ.kind ls) /\ typedAs ls τ = true := by
 unfold takeAs at b;cases g : takeIn (some τ) env x with
 | none => grind
 | some q => grind
theorem Y1d (τ : Ty) : τ.kind.plain = true := by unfold Ty.kind; split <;> rfl
theorem Ye8 (hT : TabOk P T) {env' : Env} (l : o.op = .box e x) (b : o.dst = some d) (z : RE c env a.tmps w) (C : d < env.length) (D : T.ty e = some τ) (A : takeAs τ env x = some (env', ls)) (q : K (setD (some d) env' (.con (.box ⟨e, false, []⟩) ls)) = some r) (y : Next c a K r env.length next) : o.wp P a w next Q := by
 obtain ⟨i, B⟩ := Y1s A;obtain ⟨vs, h⟩ := z;obtain ⟨m, p⟩ := Yy h (fun r => .inl rfl) i (Xn _) rfl;have g := Ys i;have j := p.boxed (n := env.length) om (Y0 _ _ _) g (Y1d τ) e (cells := (evT a.tmps x).cells) (by rw [Y0]);rw [Yf] at j;rw [<- m] at j;refine fin b (v := .pointer (some ⟨w.heap.size, 0, none⟩)) (w' := w.alloc (.cells (evT a.tmps x).cells e (0, 0))) ?_ gr m j (Y0 _ _ _) q y;simp [execOp, l, Y4, Instr.box, newVar, newRow, newObj, Sem.run]
 try rfl
end
def RVRel (S : Nat -> Prop) (w : World) : RV -> Value -> Prop
 | .val t x, v => ∃ b, v = mkV t.isAgg b /\ Rep S w t .ro b x []
 | .ptr t x, v => PtrV S w t x v
 | .clo f caps, v => ∃ vs, v = .func (.func f) #[] vs.toArray /\ PtrVs S w caps vs
 | .fptr _ _, _ => False
def RVRels (S : Nat -> Prop) (w : World) : List RV -> List Value -> Prop
 | [], vs => vs = []
 | x :: xs, vs => ∃ v b, vs = v :: b /\ RVRel S w x v /\ RVRels S w xs b
def ResRel (S : Nat -> Prop) (base : Nat) (w : World) (B : List Nat) : List (Ty × Lvl) -> List (Σ t : Ty, t.D) -> List (List Value) -> List Nat -> Prop
 | [], xs, chs, bs => xs = [] /\ chs = [] /\ bs = []
 | p :: ps, xs, chs, bs => ∃ (x : p.1.D) (h : List (Σ t : Ty, t.D)) (j : List Value) (g : List (List Value)) (b i : List Nat), xs = ⟨p.1, x⟩ :: h /\ chs = j :: g /\ bs = b ++ i /\
   Rep (fun k => (S k \/ base <= k) /\ k ∉ B) w p.1 p.2.res j x b /\ ResRel S base w B ps h g i
def resVals : List (Ty × Lvl) -> List (List Value) -> List Value
 | p :: ps, ch :: chs => mkV p.1.isAgg ch :: resVals ps chs
 | _, _ => []
def resVal (rs : List (Ty × Lvl)) (b : List (List Value)) : Value := match resVals rs b with
 | [v] => v
 | vs => .tuple vs.toArray
def FnSpec (P : Program) (f : FuncId) (rs : List (Ty × Lvl)) (args : List RV) (i : List (Σ t : Ty, t.D)) : Prop :=
 ∀ (S : Nat -> Prop) (w : World) (g : List Value), RVRels S w args g -> Calls P f g.toArray w (fun e w' => ∃ h bs, e = .returned (resVal rs h) /\ Below w.heap.size w w' /\ ResRel S w.heap.size w' bs rs i h bs /\ bs.Nodup /\ ∀ b ∈ bs, w.heap.size <= b)
def RCapRel (S : Nat -> Prop) (w : World) (b v : Value) : RCap -> Value -> Prop
 | .ro x, u => PtrV S w x.1 x.2 u
 | .pin, u => u = b
 | .self, u => u = v
def RCapRels (S : Nat -> Prop) (w : World) (g v : Value) : List RCap -> List Value -> Prop
 | [], vs => vs = []
 | c :: cs, vs => ∃ u b, vs = u :: b /\ RCapRel S w g v c u /\ RCapRels S w g v cs b
def RVRelX (S : Nat -> Prop) (w : World) (b : Value) : RV -> Value -> Prop
 | .fptr f caps, v => ∃ B us, v = .pointer (some ⟨B, 0, none⟩) /\ S B /\ B < w.heap.size /\ w.cell? ⟨B, 0, none⟩ = some (.func (.func f) #[] us.toArray) /\ RCapRels S w b v caps us
 | rv, v => RVRel S w rv v
def RVRelsY (S : Nat -> Prop) (w : World) (g : Value) : List RV -> List Value -> Prop
 | [], vs => vs = []
 | x :: xs, vs => ∃ v b, vs = v :: b /\ RVRelX S w g x v /\ RVRelsY S w g xs b
def RVRelsX (S : Nat -> Prop) (w : World) (g : Value) : Nat -> List RV -> List Value -> Prop
 | _, [], vs => vs = []
 | 0, _ :: xs, vs => ∃ v b, vs = v :: b /\ RVRelsY S w g xs b
 | k + 1, x :: xs, vs => ∃ v b, vs = v :: b /\ RVRelX S w g x v /\ RVRelsX S w g k xs b
def LvsRel (S : Nat -> Prop) (w : World) (p : Nat -> Prop) (ls : List Leaf) (g : List Value) (b : List (List Nat)) : Prop :=
 ls.length = g.length /\ b.length = g.length /\ ∀ (l : Nat) (lf : Leaf) (u : Value), p l -> ls[l]? = some lf -> g[l]? = some u -> ∃ m, lf.m = .at_ m /\ Rep S w lf.t m [u] lf.x (b.getD l [])
def BoxSig.free (b : BoxSig) (l : Nat) : Prop := (slotAt b.lv l).isFx = false
def FnSpecBox (P : Program) (f : FuncId) (rs : List (Ty × Lvl)) (b : BoxSig) (t : Ty) (x : t.D) (args : List RV) (y : t.D) (p : List (Σ t : Ty, t.D)) : Prop :=
 ∀ (S : Nat -> Prop) (w : World) (i : List Value) (B : Nat) (m : List Value) (h : List (List Nat)) (base : Nat),
  i[b.k]? = some (.pointer (some ⟨B, 0, none⟩)) -> w.heap[B]? = some (.cells m.toArray b.id (0, 0)) -> LvsRel S w (fun _ => True) (leaves t x b.md 0) m h -> (B :: h.flatten).Nodup -> (∀ k ∈ B :: h.flatten, base <= k) -> base <= w.heap.size ->
  RVRelsX S w (.pointer (some ⟨B, 0, none⟩)) b.k args i -> (∀ k, S k -> k ∉ B :: h.flatten) ->
  Calls P f i.toArray w (fun e w' => ∃ ch' g j bs, e = .returned (resVal rs j) /\ Below base w w' /\ (∀ k, k < w.heap.size -> k ∉ B :: h.flatten -> w'.heap[k]? = w.heap[k]?) /\ w'.heap[B]? = some (.cells ch'.toArray b.id (0, 0)) /\ ch'.length = m.length /\ (∀ l, (slotAt b.lv l).isFx = true -> ch'[l]? = m[l]?) /\
   LvsRel (fun k => (S k \/ k ∈ h.flatten \/ w.heap.size <= k) /\ k ∉ B :: (g.flatten ++ bs)) w' b.free (leaves t y b.md 0) ch' g /\ (∀ l, (slotAt b.lv l).isFx = true -> g.getD l [] = []) /\ (B :: (g.flatten ++ bs)).Nodup /\ (∀ k ∈ g.flatten ++ bs, k ∈ h.flatten \/ w.heap.size <= k) /\
   ResRel (fun k => S k \/ k ∈ B :: h.flatten) w.heap.size w' (B :: (g.flatten ++ bs)) rs p j bs)
def FnSpecMut (P : Program) (f : FuncId) (rs : List (Ty × Lvl)) (t : Ty) (x : t.D) (args : List RV) (y : t.D) (m : List (Σ t : Ty, t.D)) : Prop :=
 ∀ (S : Nat -> Prop) (w : World) (l : List Value) (g : List Value) (h : List Nat) (base : Nat), Rep (fun _ => False) w t .dp l x h -> h.Nodup -> (∀ b ∈ h, base <= b) -> base <= w.heap.size -> RVRels S w args g -> (∀ b, S b -> b ∉ h) ->
  Calls P f (mkV t.isAgg l :: g).toArray w (fun e w' => ∃ i bs j, e = .returned (resVal rs i) /\ Below base w w' /\ (∀ b, b < w.heap.size -> b ∉ h -> w'.heap[b]? = w.heap[b]?) /\ Rep (fun _ => False) w' t .dp l y j /\ j.Nodup /\ (∀ b ∈ j, b ∈ h \/ w.heap.size <= b) /\ ResRel S w.heap.size w' bs rs m i bs)
def FnSpecOwn (P : Program) (f : FuncId) (t : Ty) (x : t.D) (args : List RV) (y : t.D) : Prop :=
 ∀ (S : Nat -> Prop) (w : World) (v : Value) (g : List Value) (h : List Nat) (base : Nat), Rep (fun _ => False) w t .dp [v] x h -> h.Nodup -> (∀ b ∈ h, base <= b) -> base <= w.heap.size -> RVRels S w args g -> (∀ b, S b -> b ∉ h) ->
  Calls P f (v :: g).toArray w (fun e w' => ∃ j i, e = .returned j /\ Below base w w' /\ (∀ b, b < w.heap.size -> b ∉ h -> w'.heap[b]? = w.heap[b]?) /\ Rep (fun _ => False) w' t .dp [j] y i /\ i.Nodup /\ (∀ b ∈ i, b ∈ h \/ w.heap.size <= b))
def FnSpecSh (P : Program) (f : FuncId) (t : Ty) (x : t.D) : Prop :=
 ∀ (S : Nat -> Prop) (w : World) (v : Value), Rep S w t .ro [v] x [] -> Calls P f #[v] w (fun e w' => ∃ h g, e = .returned h /\ Below w.heap.size w w' /\ Rep S w' t .sh [h] x g /\ g.Nodup /\ ∀ b ∈ g, w.heap.size <= b)
def FnSpecG (P : Program) (f : FuncId) (rs : List (Ty × Lvl)) (k : Nat) (t : Ty) (x : t.D) (args : List RV) (j : List (Σ t : Ty, t.D)) : Prop :=
 ∀ (S : Nat -> Prop) (w : World) (v : Value) (g : List Value) (h : List Nat) (base : Nat), Rep (fun _ => False) w t .dp [v] x h -> h.Nodup -> (∀ b ∈ h, base <= b) -> base <= w.heap.size -> RVRels S w args g -> (∀ b, S b -> b ∉ h) ->
  Calls P f (insN k v g).toArray w (fun e w' => ∃ i bs, e = .returned (resVal rs i) /\ Below base w w' /\ (∀ b, b < w.heap.size -> b ∉ h -> w'.heap[b]? = w.heap[b]?) /\ ResRel (fun _ => True) 0 w' bs rs j i bs /\ bs.Nodup /\ ∀ b ∈ bs, b ∈ h \/ w.heap.size <= b)
def newRes (B : Nat) (rs : List (Ty × Lvl)) (b : List (List Value)) : Value := match rs with
 | [] => .pointer (some ⟨B, 0, none⟩)
 | _ :: _ => .tuple (.pointer (some ⟨B, 0, none⟩) :: resVals rs b).toArray
def FnSpecNew (P : Program) (f : FuncId) (id : TypeId) (rs : List (Ty × Lvl)) (t : Ty) (args : List RV) (y : t.D) (ys : List (Σ t : Ty, t.D)) : Prop :=
 ∀ (S : Nat -> Prop) (w : World) (g : List Value), RVRels S w args g -> Calls P f g.toArray w (fun e w' => ∃ B i h bs, e = .returned (newRes B rs h) /\ Below w.heap.size w w' /\ w.heap.size <= B /\ w'.heap[B]? = some (.cells i.toArray id (0, 0)) /\ Rep (fun k => (S k \/ w.heap.size <= k) /\ k ∉ B :: bs) w' t .ro i y [] /\
  ResRel S w.heap.size w' (B :: bs) rs ys h bs /\ (B :: bs).Nodup /\ ∀ b ∈ bs, w.heap.size <= b)
def Enterable (P : Program) (f : FuncId) : Prop := ∃ fn, P.funcs[f]? = some fn /\ fn.body.isNone = false /\ (fn.name == "runtime.NumGoroutine") = false
def OrcOk (P : Program) (sig : FuncId -> Option Sig) (orc : Orc) : Prop :=
 ∀ f sg args q x, sig f = some sg -> orc f args = some q -> q.run = some x -> Enterable P f /\
  (match sg.box with
   | some b => ∃ t h y ys, nthL args b.k = some (.ptr t h) /\ q.pk x = ⟨t, y⟩ :: ys /\ FnSpecBox P f sg.results b t h args y ys
   | none => match sg.newb with
   | some id => ∃ t y ys, q.pk x = ⟨t, y⟩ :: ys /\ FnSpecNew P f id sg.results t args y ys
   | none => match sg.muts with
   | false => if sg.own then (match sg.give with
    | none => ∃ t h, args = [.val t h] /\ q.pk x = [⟨t, h⟩] /\ FnSpecSh P f t h
    | some k => ∃ t h g, args = insN k (.val t h) g /\ FnSpecG P f sg.results k t h g (q.pk x)) else FnSpec P f sg.results args (q.pk x)
   | true => if sg.own then ∃ t h g y, args = .val t h :: g /\ q.pk x = [⟨t, y⟩] /\ FnSpecOwn P f t h g y else ∃ t h g y ys, args = .val t h :: g /\ q.pk x = ⟨t, y⟩ :: ys /\ FnSpecMut P f sg.results t h g y ys)
theorem Y3o {S : Nat -> Prop} {w : World} : ∀ (t : Ty) {ls : List Leaf} {x : t.D} {rest : List Leaf} {cells : List Value}, asm t ls = some (x, rest) -> ls.length = cells.length ->
  (∀ (l : Nat) (lf : Leaf) (u : Value), ls[l]? = some lf -> cells[l]? = some u -> Rep S w lf.t .ro [u] lf.x []) -> ∃ z A, cells = z ++ A /\ rest.length = A.length /\ Rep S w t .ro z x [] /\ (∀ (l : Nat) (lf : Leaf) (u : Value), rest[l]? = some lf -> A[l]? = some u -> Rep S w lf.t .ro [u] lf.x []) /\ (∀ l ∈ rest, l ∈ ls)
 | .unit, ls, x, rest, cells, h, hl, hr => by
  simp [asm] at h;obtain ⟨_, rfl⟩ := h;exact ⟨[], cells, rfl, hl, ⟨rfl, rfl⟩, hr, fun l h => h⟩
 | .pair a b, ls, x, rest, cells, h, hl, hr => by
  simp [asm] at h;cases B : asm a ls with
  | none => rw [B] at h; simp at h
  | some q =>
   obtain ⟨V, O⟩ := q;rw [B] at h;simp only at h;cases C : asm b O with
   | none => rw [C] at h; simp at h
   | some q =>
    obtain ⟨W, U⟩ := q;rw [C] at h;simp at h;obtain ⟨rfl, rfl⟩ := h;obtain ⟨z, A, rfl, G, F, I, M⟩ := Y3o a B hl hr;obtain ⟨D, E, rfl, l2, k2, L, N⟩ := Y3o b C G I;exact ⟨z ++ D, E, by rw [X4], l2, ⟨z, D, [], [], rfl, rfl, F, k2⟩, L, fun l h => M l (N l h)⟩
 | .int k, ls, x, rest, cells, h, hl, hr => by
  cases ls with
  | nil => simp [asm] at h
  | cons l ls =>
   simp [asm] at h;cases g : l.as (.int k) with
   | none => rw [g] at h; simp at h
   | some y =>
    rw [g] at h;simp at h;obtain ⟨rfl, rfl⟩ := h;cases cells with
    | nil => simp at hl
    | cons u cells =>
     have := hr 0 l u rfl rfl;rw [Leaf.as_eq g] at this;exact ⟨[u], cells, rfl, by simpa using hl, this, fun i lf p j m => hr (i + 1) lf p j m, fun i h => X2 _ h⟩
 | .bool, ls, x, rest, cells, h, hl, hr => by
  cases ls with
  | nil => simp [asm] at h
  | cons l ls =>
   simp [asm] at h;cases g : l.as .bool with
   | none => rw [g] at h; simp at h
   | some y =>
    rw [g] at h;simp at h;obtain ⟨rfl, rfl⟩ := h;cases cells with
    | nil => simp at hl
    | cons u cells =>
     have := hr 0 l u rfl rfl;rw [Leaf.as_eq g] at this;exact ⟨[u], cells, rfl, by simpa using hl, this, fun i lf p j m => hr (i + 1) lf p j m, fun i h => X2 _ h⟩
 | .str, ls, x, rest, cells, h, hl, hr => by
  cases ls with
  | nil => simp [asm] at h
  | cons l ls =>
   simp [asm] at h;cases g : l.as .str with
   | none => rw [g] at h; simp at h
   | some y =>
    rw [g] at h;simp at h;obtain ⟨rfl, rfl⟩ := h;cases cells with
    | nil => simp at hl
    | cons u cells =>
     have := hr 0 l u rfl rfl;rw [Leaf.as_eq g] at this;exact ⟨[u], cells, rfl, by simpa using hl, this, fun i lf p j m => hr (i + 1) lf p j m, fun i h => X2 _ h⟩
 | .slice e t, ls, x, rest, cells, h, hl, hr => by
  cases ls with
  | nil => simp [asm] at h
  | cons l ls =>
   simp [asm] at h;cases g : l.as (.slice e t) with
   | none => rw [g] at h; simp at h
   | some y =>
    rw [g] at h;simp at h;obtain ⟨rfl, rfl⟩ := h;cases cells with
    | nil => simp at hl
    | cons u cells =>
     have := hr 0 l u rfl rfl;rw [Leaf.as_eq g] at this;exact ⟨[u], cells, rfl, by simpa using hl, this, fun i lf p j m => hr (i + 1) lf p j m, fun i h => X2 _ h⟩
theorem Held.rep (h : Held c s u lf) (y : lf.m.live = true) (i : ∀ b, RoS c s b -> S b) (l : ∀ q ∈ lf.refs, ∀ b ∈ s.bs q.1 (q.2 + 1), S b) : Rep S s.w lf.t .ro [u] lf.x [] := by
 obtain ⟨t, x, m⟩ := lf;cases m with
 | at_ lv => exact Rep.move (fun b g _ => ⟨i b g, rfl⟩) sm h
 | bor r j p => exact Rep.move (fun b g _ => ⟨g.elim (i b) (l (r, j) (by simp [Leaf.refs]) b), rfl⟩) sm h.1
 | dead => simp [Mode.live] at y
theorem LeafV.rep (h : LeafV c s u lf) (i : lf.m.live = true) (g : ∀ b, RoS c s b -> S b) (l : ∀ q ∈ lf.refs, ∀ b ∈ s.bs q.1 (q.2 + 1), S b) : Rep S s.w lf.t .ro [u] lf.x [] := by
 obtain ⟨t, x, m⟩ := lf;cases m with
 | at_ lv => exact Rep.move (S := fun b => RoS c s b \/ b ∈ []) (fun b y _ => ⟨y.elim (g b) sm, rfl⟩) sm (Rep.ro h.1)
 | bor r j p => exact Held.rep (lf := ⟨t, x, .bor r j p⟩) h i g l
 | dead => simp [Mode.live] at i
section
variable {c : Cx} {env : Env} {tmps : Array Value} {w : World} {ps : Nat -> AV} {vs : Nat -> Value} {cs : Nat -> List Value} {bs : Nat -> Nat -> List Nat} {caps : FuncId -> List Ty} {S : Nat -> Prop}
theorem Y54 (h : Rel c (SS env ps tmps vs w cs bs)) {r off : Nat} {x : t.D} (g : ptrOf env t r off = some x) (hp : PtrRel (SS env ps tmps vs w cs bs) r off v) (I : ∀ b, RoS c (SS env ps tmps vs w cs bs) b -> S b) (L : ∀ l, ∀ b ∈ bs r l, S b) : PtrV S w t x v := by
 unfold ptrOf at g;split at g
 ·rename_i e ls i;have E : r < env.length := Yw i;split at g
  ·rename_i x' q;split at g
   ·rename_i D;simp at g;subst g;obtain ⟨e', ls', B, g1, X, Y⟩ := hp;have A : (SS env ps tmps vs w cs bs).env r = .con (.box e) ls := by show ovl env ps r = _; rw [Y7 E]; exact i
    have y := h.av r;rw [A] at y;obtain ⟨⟨O, N, k2, k3⟩, Z, h4, h5⟩ := y;rw [X] at N;have : B = O := by simpa using N
    subst this;obtain ⟨c0, U, G, V, W, _⟩ := Y3o (S := S) (w := w) t q Z (fun l lf u hl F => by
     have M := h5 l lf u (by rw [Y1]; exact hl) F;have z : lf.m.settled = true :=gr;by_cases g : lf.m.own = true
     ·obtain ⟨t, x, m⟩ := lf;cases m with
      | at_ lv => exact Rep.move (S := fun b => RoS c (SS env ps tmps vs w cs bs) b \/ b ∈ bs r (l + 1)) (fun b i _ => ⟨i.elim (I b) (L _ b), rfl⟩) sm (Rep.ro M.rep)
      | bor _ _ _ => simp [Mode.own] at g
      | dead => simp [Mode.own] at g
     ·have := M.held (by simpa using g);obtain ⟨t, x, m⟩ := lf;cases m with
      | at_ lv => exact Rep.move (fun b i _ => ⟨I b i, rfl⟩) sm this.2
      | bor r' j' p => simp [Mode.settled] at z
      | dead => simp [Mode.settled] at z)
    have C : U = [] := Xm.1 (by rw [<- V]; rfl);subst C;rw [Xg] at G;subst G;refine ⟨⟨B, 0, none⟩, cs r, Y, L 0 B gr, (Xv.1 k2).1, fun j u F => ?_, W⟩;rw [Y16];unfold World.cell?;rw [show w.heap[B]? = _ from k2];simpa using F
   ·simp at g
  ·simp at g
 ·simp at g
theorem Y70 (h : Rel c (SS env ps tmps vs w cs bs)) (j : ∀ b, RoS c (SS env ps tmps vs w cs bs) b -> S b) : ∀ {g : List (Nat × Nat)} {ts : List Ty} {xs : List (Σ t : Ty, t.D)} {us : List Value}, capsOf env g ts = some xs -> PtrRels (SS env ps tmps vs w cs bs) g us -> (∀ q ∈ g.map (·.1), ∀ l, ∀ b ∈ bs q l, S b) -> PtrVs S w xs us
 | [], [], xs, us, ho, hp, h2 => by simp [capsOf] at ho; subst ho; exact hp
 | [], t :: ts, xs, us, ho, hp, h2 => by simp [capsOf] at ho
 | q :: g, [], xs, us, ho, hp, h2 => by simp [capsOf] at ho
 | (r, off) :: g, t :: ts, xs, us, ho, ⟨v, vs', e, hp1, hp2⟩, h2 => by
  simp [capsOf] at ho;cases p : ptrOf env t r off with
  | none => grind
  | some x =>
   rw [p] at ho;cases i : capsOf env g ts with
   | none => simp_all
   | some y =>
    rw [i] at ho;simp at ho;subst ho;exact ⟨v, vs', e, Y54 h p hp1 j (h2 r sm), Y70 h j i hp2 (fun q m => h2 q (by simp at m ⊢; exact .inr m))⟩
theorem Y98 (h : Rel c (SS env ps tmps vs w cs bs)) {p : PTy} {rv : RV} (M : ValC c (SS env ps tmps vs w cs bs) av v cells) (g : RVof caps env p av = some rv) (C : ∀ b, RoS c (SS env ps tmps vs w cs bs) b -> S b) (h2 : ∀ q ∈ av.refs, ∀ b ∈ bs q.1 (q.2 + 1), S b) (h3 : ∀ q ∈ av.ptrs, ∀ l, ∀ b ∈ bs q l, S b) : RVRel S w rv v := by
 unfold RVof at g;split at g
 ·rename_i t k ls;split at g
  ·rename_i hc;simp only [X7, X16] at hc;obtain ⟨rfl, m⟩ := hc;split at g
   ·rename_i x i;simp only [X0] at g;subst g;obtain ⟨B, O, U⟩ := M;obtain ⟨c0, V, N, W, e2, _⟩ := Y3o (S := S) (w := w) t i O (fun l lf u D y => by
     have h6 := U l lf u (by rw [Y1]; exact D) y;have A : lf.m.live = true :=gr;exact h6.rep A C (fun q L => h2 q (by simp only [AV.refs, Xi]; exact ⟨lf, Xa D, L⟩)))
    have z : V = [] := Xm.1 (by rw [<- W]; rfl);subst z;rw [Xg] at N;subst N;refine ⟨cells, ?_, e2⟩;unfold Ty.kind at B;cases F : t.isAgg with
    | true => rw [F] at B; simpa [mkV] using B.1
    | false =>
     rw [F] at B;simp at B;rw [B.1];rfl
   ·simp at g
  ·simp at g
 ·rename_i t r off;split at g
  ·rename_i x Z;simp at g;subst g;exact Y54 h Z M C (h3 r (by simp [AV.ptrs]))
  ·simp at g
 ·rename_i t ls;split at g
  ·rename_i m;split at g
   ·rename_i x i;simp at g;subst g;obtain ⟨a, rfl, O, U⟩ := M
    let E : List Value := (List.range ls.length).map fun l => (w.cell? (a.add l)).getD undef
    have G : ∀ (l : Nat) (u : Value), E[l]? = some u -> l < ls.length /\ w.cell? (a.add l) = some u := by
     intro l u y;simp only [E, X17, Xt] at y;obtain ⟨l', hl', rfl⟩ := y;have I : l < ls.length :=gr;have : l' = l :=gr;subst this;obtain ⟨_, u', Y, _⟩ := O l' ls[l'] (by rw [Y1]; exact X1 I);exact ⟨I, by rw [Y]; rfl⟩
    obtain ⟨c0, V, N, W, e2, _⟩ := Y3o (S := S) (w := w) (cells := E) t i (by simp [E]) (fun l lf u D y => by
     obtain ⟨k1, u', k2, k3⟩ := O l lf (by rw [Y1]; exact D);obtain ⟨_, k4⟩ := G l u y;rw [k4] at k2;have : u = u' := Xj k2;subst this;have A : lf.m.live = true := by simpa using Xd.1 m lf (Xa D)
     exact k3.rep A C (fun q L => h2 q (by simp only [AV.refs, Xg, Xi]; exact ⟨lf, Xa D, L⟩)))
    have z : V = [] := Xm.1 (by rw [<- W]; rfl);subst z;rw [Xg] at N;exact ⟨a, E, rfl, C _ U.1, U.2, fun j u y => (G j u y).2, gr⟩
   ·simp at g
  ·simp at g
 ·rename_i f xs;simp at g;subst g;obtain ⟨us, e, X⟩ := M;exact ⟨us, e, X.move (fun b hb _ => ⟨C b hb, rfl⟩)⟩
 ·rename_i f qs;split at g
  ·rename_i xs Z;simp at g;subst g;obtain ⟨us, e, X⟩ := M;exact ⟨us, e, Y70 h C Z X (fun q L => h3 q (by simpa [AV.ptrs] using L))⟩
  ·simp at g
 ·simp at g
def ValCs (c : Cx) (s : St) : List AV -> List Value -> Prop
 | [], us => us = []
 | v :: vs, us => ∃ u b, us = u :: b /\ (∃ cells, ValC c s v u cells) /\ ValCs c s vs b
theorem Y5w (h : Rel c (SS env ps tmps vs w cs bs)) (j : ∀ b, RoS c (SS env ps tmps vs w cs bs) b -> S b) : ∀ {ptys : List PTy} {avs : List AV} {us : List Value} {rvs : List RV}, ValCs c (SS env ps tmps vs w cs bs) avs us -> RVs caps env ptys avs = some rvs ->
  (∀ v ∈ avs, ∀ q ∈ v.refs, ∀ b ∈ bs q.1 (q.2 + 1), S b) -> (∀ v ∈ avs, ∀ q ∈ v.ptrs, ∀ l, ∀ b ∈ bs q l, S b) -> RVRels S w rvs us
 | [], [], us, rvs, g, ho, h2, h3 => by simp [RVs] at ho; subst ho; exact g
 | [], v :: avs, us, rvs, g, ho, h2, h3 => by simp [RVs] at ho
 | p :: ptys, [], us, rvs, g, ho, h2, h3 => by simp [RVs] at ho
 | p :: ptys, v :: avs, us, rvs, ⟨u, us', e, ⟨cells, hv1⟩, hv2⟩, ho, h2, h3 => by
  simp [RVs] at ho;cases m : RVof caps env p v with
  | none => simp_all
  | some x =>
   rw [m] at ho;cases i : RVs caps env ptys avs with
   | none => grind
   | some y =>
    rw [i] at ho;simp at ho;subst ho;exact ⟨u, us', e, Y98 h hv1 m j (h2 v Xo) (h3 v Xo), Y5w h j hv2 i (fun v g => h2 v (X2 _ g)) (fun v g => h3 v (X2 _ g))⟩
end
theorem Yu {g : List (List Nat)} {l b : Nat} (h : b ∈ g.getD l []) : b ∈ g.flatten := by
 rw [Xh] at h;cases i : g[l]? with
 | none => rw [i] at h; simp at h
 | some x => rw [i] at h; exact X32.2 ⟨x, Xa i, h⟩
theorem Y1a : ∀ {g : List (List Nat)}, g.flatten.Nodup -> (∀ l, (g.getD l []).Nodup) /\ ∀ l i b, b ∈ g.getD l [] -> b ∈ g.getD i [] -> l = i
 | [], h => ⟨fun l => by simp, fun l i b m => by simp at m⟩
 | x :: g, h => by
  simp only [X2r, Xq] at h;obtain ⟨y, q, p⟩ := h;obtain ⟨z, k2⟩ := Y1a q;refine ⟨fun l => ?_, fun l i b m j => ?_⟩
  ·grind
  ·cases l with
   | zero => cases i with
    | zero => rfl
    | succ i => exact absurd rfl (p b m b (Yu (l := i) j))
   | succ l => cases i with
    | zero => exact absurd rfl (p b j b (Yu (l := l) m))
    | succ i => rw [k2 l i b m j]
theorem Ybd (fr : Lvl) (t : Ty) {i : List Value} {x : t.D} {b : List Nat} (h : Rep S w t fr.res i x b) :
  (leaves t x (newMode fr) 0).length = i.length /\ (∀ lf ∈ leaves t x (newMode fr) 0, lf.m.settled = true) /\ ∃ g : List (List Nat), g.length = i.length /\ b = g.flatten /\
   ∀ (l : Nat) (lf : Leaf) (u : Value), (leaves t x (newMode fr) 0)[l]? = some lf -> i[l]? = some u -> ∃ m, lf.m = .at_ m /\ Rep S w lf.t m [u] lf.x (g.getD l []) := by
 exact Y2d fr.res t 0 h
theorem Ydx {m : Lvl} {x : t.D} {b : List Nat} (h : Rep S w t m [u] x b) : ∃ m', upgM t (.at_ m) = .at_ m' /\ Rep S w t m' [u] x b := by
 cases t with
 | slice e te =>
  simp only [upgM];by_cases g : (te.flatB && (Mode.at_ m == .at_ .sh)) = true
  ·rw [X3 g];simp only [X7, beq_iff_eq, Mode.at_.injEq] at g;obtain ⟨B, rfl⟩ := g;obtain ⟨v, xs, i, j, q, y, z, A⟩ := h;refine ⟨.dp, rfl, v, xs, i, j, q, y, El.imp (fun c x b _ h => ?_) z, A⟩;obtain ⟨l, p⟩ := Rep.flat (S' := S) (w' := w) (m' := .dp) B h;rw [l]; exact p
  ·grind
 | _ => exact ⟨m, rfl, h⟩
theorem Yah {m : Mode} (h : m.settled = true) : (upgM t m).settled = true := by
 unfold upgM;split
 ·split
  ·rfl
  ·exact h
 ·exact h
theorem Ye9 {m : Mode} (h : ∀ k, m ≠ .at_ (.pn k)) : ∀ k, upgM t m ≠ .at_ (.pn k) := by
 intro k;unfold upgM;split
 ·grind
 ·exact h k
theorem Y4w {base : Nat} {B : List Nat} : ∀ {rs : List (Ty × Lvl)} {xs : List (Σ t : Ty, t.D)} {chs : List (List Value)} {bs : List Nat} {sh : List (Bool × Nat)} {ls : List Leaf}, ResRel S base w B rs xs chs bs -> resLeaves rs xs = some (sh, ls) ->
  TupCells sh (resVals rs chs) chs.flatten /\ ls.length = chs.flatten.length /\ (∀ lf ∈ ls, lf.m.settled = true) /\ ∃ g : List (List Nat), g.length = ls.length /\ bs = g.flatten /\
   ∀ (l : Nat) (lf : Leaf) (u : Value), ls[l]? = some lf -> chs.flatten[l]? = some u -> ∃ m, lf.m = .at_ m /\ Rep (fun k => (S k \/ base <= k) /\ k ∉ B) w lf.t m [u] lf.x (g.getD l [])
 | [], xs, chs, bs, sh, ls, ⟨e1, e2, e3⟩, h => by
  subst e1; subst e2; subst e3;simp [resLeaves] at h;obtain ⟨rfl, rfl⟩ := h;exact ⟨⟨rfl, rfl⟩, rfl, sm, [], rfl, rfl, sm⟩
 | (t, fr) :: rs, xs, chs, bs, sh, ls, ⟨x, xs', ch, chs', b, b', e1, e2, e3, h1, h2⟩, h => by
  subst e1; subst e2; subst e3;simp [resLeaves] at h;cases E : resLeaves rs xs' with
  | none => rw [E] at h; simp at h
  | some q =>
   obtain ⟨sh', O⟩ := q;rw [E] at h;simp [dif_pos] at h;obtain ⟨rfl, rfl⟩ := h;obtain ⟨L, k2, k3, p, M, N, k6⟩ := Y4w h2 E;obtain ⟨G, V, g, W, X, Y⟩ := Ybd fr t h1;have y : ch.length = t.sz := Rep.len h1;refine ⟨?_, by simp [G, k2], fun lf j => ?_, g ++ p, by simp [W, G, M], by rw [X2y, X, N], fun l lf u A F => ?_⟩
   ·refine ⟨mkV t.isAgg ch, resVals rs chs', ch, chs'.flatten, rfl, sm, y, ?_, L⟩;cases z : t.isAgg with
    | true => simp [mkV]
    | false =>
     obtain ⟨u, rfl⟩ := X1h.1 (y.trans (Y2e z));simp [mkV];exact Rep.one h1 u sm
   ·rcases X6.1 j with j | j
    ·obtain ⟨i, I, rfl⟩ := X1a.1 j;exact Yah (V i I)
    ·grind
   ·simp at F;have U : ((leaves t x (newMode fr) 0).map Leaf.upg).length = ch.length :=gr;by_cases D : l < ch.length
    ·rw [Xs om] at A;rw [Xs D] at F;rw [X17] at A;obtain ⟨i, C, rfl⟩ := Xt.1 A;obtain ⟨m, Z, n2⟩ := Y l i u C F;obtain ⟨m', n3, n4⟩ := Ydx n2;refine ⟨m', by show upgM i.t i.m = _; rw [Z]; exact n3, ?_⟩;rw [Xh, Xs om, <- Xh];exact n4
    ·grind
theorem Y2o : ∀ {rs : List (Ty × Lvl)} {xs : List (Σ t : Ty, t.D)} {sh : List (Bool × Nat)} {ls : List Leaf}, resLeaves rs xs = some (sh, ls) -> ∀ lf ∈ ls, ∀ h, lf.m ≠ .at_ (.pn h)
 | [], [], sh, ls, h, lf, b => by
  simp [resLeaves] at h;obtain ⟨rfl, rfl⟩ := h;simp at b
 | [], _ :: _, sh, ls, h, lf, b => by simp [resLeaves] at h
 | _ :: _, [], sh, ls, h, lf, b => by simp [resLeaves] at h
 | (t, fr) :: rs, x :: xs, sh, ls, h, lf, b => by
  simp only [resLeaves] at h;split at h
  ·cases i : resLeaves rs xs with
   | none => rw [i] at h; simp at h
   | some q =>
    obtain ⟨p, m⟩ := q;rw [i] at h;simp at h;obtain ⟨rfl, rfl⟩ := h;rcases X6.1 b with b | b
    ·obtain ⟨j, g, rfl⟩ := X1a.1 b;refine Ye9 (fun y e => ?_);rcases Y1r (lv := fr.res) t _ 0 j g with l | l
     ·grind
     ·rw [l] at e; cases fr <;> cases e
    ·exact Y2o i lf b
  ·simp at h
theorem Y4m (b : resAV rs xs = some (.con k ls)) : ∀ lf ∈ ls, ∀ h, lf.m ≠ .at_ (.pn h) := by
 unfold resAV at b;cases g : resLeaves rs xs with
 | none => simp_all
 | some q =>
  obtain ⟨j, i⟩ := q;rw [g] at b;simp [mkCon] at b;split at b
  ·simp at b;rw [<- b.2]; exact Y2o g
  ·simp at b;rw [<- b.2]; exact Y2o g
theorem Y55 {base : Nat} {B : List Nat} {b : List (List Value)} {bs : List Nat} (h : ResRel S base w B rs xs b bs) (i : resAV rs xs = some av) :
  ∃ k ls, av = .con k ls /\ KCells c w [] k (resVal rs b) b.flatten /\ ls.length = b.flatten.length /\ (∀ lf ∈ ls, lf.m.settled = true) /\ ∃ j : List (List Nat), j.length = ls.length /\ bs = j.flatten /\
   ∀ (l : Nat) (lf : Leaf) (u : Value), ls[l]? = some lf -> b.flatten[l]? = some u -> ∃ m, lf.m = .at_ m /\ Rep (fun k => (S k \/ base <= k) /\ k ∉ B) w lf.t m [u] lf.x (j.getD l []) := by
 unfold resAV at i;cases F : resLeaves rs xs with
 | none => grind
 | some q =>
  obtain ⟨y, ls⟩ := q;rw [F] at i;obtain ⟨D, k2, G, I⟩ := Y4w h F;have tup : ∀ {y : List (Bool × Nat)} {us cs : List Value}, TupCells y us cs -> us.length = y.length := by
   intro y
   induction y with
   | nil => intro us cs h; rw [h.1]; rfl
   | cons p y X => intro us cs h; obtain ⟨v, E, c, A, e, _, _, _, h⟩ := h; rw [e, X1x, X h, X1x]
  have V := tup D;have g : y.length ≠ 1 -> resVal rs b = .tuple (resVals rs b).toArray := by
   intro z;unfold resVal;split
   ·grind
   ·rfl
  simp only at i;split at i
  ·rename_i agg n;simp at i;subst i;refine ⟨_, ls, rfl, ?_, k2, G, I⟩;obtain ⟨v, E, c, A, L, M, Y, C, N, O⟩ := D;have W : resVals rs b = [v] := by rw [L, N]
   have : resVal rs b = v := by unfold resVal; rw [W]
   rw [this, M, O, Xg];cases agg with
   | true => exact ⟨by simpa using C, rfl⟩
   | false => simp at C; exact ⟨C.1, rfl⟩
  ·rename_i z;simp at i;subst i;refine ⟨_, ls, rfl, ⟨rfl, resVals rs b, g (fun U => ?_), D⟩, k2, G, I⟩;obtain ⟨⟨agg, n⟩, rfl⟩ := X1h.1 U;exact z agg n rfl
def freezeArgsE (rs : List (Ty × Lvl)) : List AV -> (Nat -> AV) -> (Nat -> AV)
 | [], E => E
 | v :: vs, E => freezeArgsE rs vs (match v with
  | .con _ ls => freezeAllE ls E
  | _ => E)
theorem Y3d (rs : List (Ty × Lvl)) : ∀ (vs : List AV) (env : Env), (freezeArgs rs vs env).length = env.length
 | [], env => rfl
 | v :: vs, env => by
  simp [freezeArgs];rw [Y3d rs vs];cases v <;> first | rfl | exact (Yd _ _).2
theorem Y2p (rs : List (Ty × Lvl)) : ∀ (vs : List AV) {env : Env} {ps : Nat -> AV}, (∀ v ∈ vs, ∀ q ∈ v.refs, q.1 < env.length) -> (∀ r, Settled (ps r)) -> freezeArgsE rs vs (ovl env ps) = ovl (freezeArgs rs vs env) ps
 | [], env, ps, _, _ => rfl
 | v :: vs, env, ps, hv, hs => by
  simp [freezeArgs, freezeArgsE];cases v with
  | con k ls =>
   simp only;rw [Y19 ls (fun l h q g => hv _ Xo q (by simp only [AV.refs, Xi]; exact ⟨l, h, g⟩)) hs];exact Y2p rs vs (fun v b q g => by rw [(Yd ls env).2]; exact hv v (X2 _ b) q g) hs
  | _ => exact Y2p rs vs (fun v b => hv v (X2 _ b)) hs
theorem Y27 (rs : List (Ty × Lvl)) : ∀ (vs : List AV) (E : Nat -> AV) (r : Nat), (∀ q ∈ (freezeArgsE rs vs E r).refs, q ∈ (E r).refs) /\ (∀ q ∈ (freezeArgsE rs vs E r).ptrs, q ∈ (E r).ptrs)
 | [], E, r => ⟨fun q h => h, fun q h => h⟩
 | v :: vs, E, r => by
  cases v with
  | con k ls =>
   have g := Y27 rs vs (freezeAllE ls E) r;have i := Y10 ls E r;exact ⟨fun q b => i.1 q (g.1 q b), fun q b => i.2 q (g.2 q b)⟩
  | _ => exact Y27 rs vs E r
theorem Rel.freezeArgs_ (rs : List (Ty × Lvl)) : ∀ (vs : List AV) {s : St} (h : Rel c s), allCon vs = true -> ∃ bs', Rel c { s with env := freezeArgsE rs vs s.env, bs := bs' } /\ (∀ r l b, b ∈ bs' r l -> b ∈ s.bs r l) /\ (∀ v ∈ vs, ∀ q ∈ v.refs, bs' q.1 (q.2 + 1) = [])
 | [], s, h, _ => ⟨s.bs, h, fun _ _ _ h => h, sm⟩
 | v :: vs, s, h, hc => by
  cases v with
  | con k ls =>
   simp [allCon] at hc;obtain ⟨B, D, F, C⟩ := h.freezeAll_ ls;obtain ⟨i, E, k2, G⟩ := Rel.freezeArgs_ rs vs D hc;refine ⟨i, E, fun r l b z => F _ _ _ (k2 _ _ _ z), fun v A q g => ?_⟩;rcases Xw.1 A with rfl | A
   ·simp only [AV.refs, Xi] at g;obtain ⟨lf, y, g⟩ := g;obtain ⟨t, x, m⟩ := lf;cases m with
    | bor r j p =>
     simp [Leaf.refs] at g;subst g;have := C _ y r j p rfl;exact X2b.2 (fun b z => gr)
    | at_ _ => simp [Leaf.refs] at g
    | dead => simp [Leaf.refs] at g
   ·grind
  | _ => simp [allCon] at hc
theorem Y4b {S S' : Nat -> Prop} {base : Nat} {B : List Nat} : ∀ {rs : List (Ty × Lvl)} {xs : List (Σ t : Ty, t.D)} {chs : List (List Value)} {bs : List Nat}, allFresh rs = true -> ResRel S base w B rs xs chs bs -> ResRel S' base w B rs xs chs bs
 | [], xs, chs, bs, _, h => h
 | (t, fr) :: rs, xs, chs, bs, ha, ⟨x, xs', ch, chs', b, b', e1, e2, e3, h1, h2⟩ => by
  simp [allFresh] at ha;refine ⟨x, xs', ch, chs', b, b', e1, e2, e3, ?_, Y4b ha.2 h2⟩;by_cases g : fr = .dp
  ·subst g; exact Rep.dpS h1
  ·have j : t.flatB = true := ha.1.resolve_left g;obtain ⟨rfl, i⟩ := Rep.flat (S' := fun k => (S' k \/ base <= k) /\ k ∉ B) (w' := w) (m' := fr.res) j h1;exact i
theorem Y2z (t : Ty) : ∀ (x : t.D) (n : Nat), ∀ lf ∈ leaves t x (fun _ => .at_ .ro) n, lf.m = .at_ .ro := by
 induction t with
 | int k => intro x n lf h; simp [leaves] at h; rw [h]
 | bool => intro x n lf h; simp [leaves] at h; rw [h]
 | str => intro x n lf h; simp [leaves] at h; rw [h]
 | slice e t j => intro x n lf h; simp [leaves] at h; rw [h]
 | unit => intro x n lf h; simp [leaves] at h
 | pair a b g i =>
  intro x n lf h;simp [leaves] at h;rcases h with h | h
  ·grind
  ·grind
theorem Y2q (t : Ty) (x : t.D) (n : Nat) : (leaves t x (fun _ => .at_ .ro) n).flatMap Leaf.refs = [] := by
 rw [List.flatMap_eq_nil_iff];intro lf h;have := Y2z t x n lf h;obtain ⟨b, g, m⟩ := lf;subst this;rfl
theorem Y71 (x : Σ t : Ty, t.D) : (ptrAV x).refs = [] := by
 unfold ptrAV;simp only [AV.refs, Xg];exact Y2q x.1 x.2 0
theorem Ycg {x : Σ t : Ty, t.D} (h : PtrV (RoS c s) s.w x.1 x.2 v) : ValC c s (ptrAV x) v [] := by
 obtain ⟨a, p, rfl, q, y, b, j⟩ := h;obtain ⟨C, B⟩ := Y1x x.1 (fun _ => .at_ .ro) 0 j;refine ⟨a, rfl, fun l lf z => ?_, q, y⟩;have A := Y2z x.1 x.2 0 lf (Y9 z);refine ⟨by rw [A]; rfl, ?_⟩;have g := z;rw [Y1] at g;have i : l < p.length :=gr;refine ⟨p[l], b l _ (X1 i), ?_⟩;have := (B l lf p[l] g (X1 i)).1;obtain ⟨D, E, m⟩ := lf;subst A;exact this
theorem Y4n {c : Cx} {s : St} : ∀ {xs : List (Σ t : Ty, t.D)} {vs : List Value}, PtrVs (RoS c s) s.w xs vs -> ValCs c s (xs.map ptrAV) vs
 | [], vs, h => h
 | x :: xs, vs, ⟨v, vs', e, h1, h2⟩ => ⟨v, vs', e, ⟨[], Ycg h1⟩, Y4n h2⟩
section
variable {P : Program} {o : Oper} {a : Act} {w : World} {R : Type} {K : Env -> Option R} {r : R} {next : Act -> World -> Prop} {Q : Exit -> Act -> World -> Prop} {c : Cx} {d : Nat} {T : Tab} {env : Env}
theorem RP.resultL {w w' : World} {rv : Value} {g : List (List Nat)}
  (h : RP c env tmps w noP vs) (hS : ∀ cs bs, Rel c (SS env noP tmps vs w cs bs) -> ∃ y q, Rel c (SS env noP tmps vs w y q) /\ ∀ b, S b -> b < w'.heap.size -> RoS c (SS env noP tmps vs w y q) b) (C : Below w.heap.size w w') (h1 : KCells c w' [] k rv cells) (h2 : ls.length = cells.length) (h3 : ∀ lf ∈ ls, lf.m.settled = true) (h4 : g.length = ls.length)
  (h6 : ∀ (l : Nat) (lf : Leaf) (u : Value), ls[l]? = some lf -> cells[l]? = some u -> ∃ m, lf.m = .at_ m /\ Rep (fun k => (S k \/ w.heap.size <= k) /\ k ∉ g.flatten) w' lf.t m [u] lf.x (g.getD l [])) (hnd : g.flatten.Nodup) (Y : ∀ b ∈ g.flatten, w.heap.size <= b) (j : ∀ lf ∈ ls, ∀ h, lf.m ≠ .at_ (.pn h)) :
  RP c env tmps w' (upd noP env.length (.con k ls)) (upd vs env.length rv) := by
 obtain ⟨n1, n2⟩ := Y1a hnd;obtain ⟨F, cs, bs, hr, L⟩ := h;obtain ⟨y, q, B, U⟩ := hS cs bs hr;have h : RP c env tmps w noP vs := ⟨F, y, q, B, L⟩;have hq : (ovl env noP env.length).quiet = true := by rw [Ym (Xn _)]; rfl
 have I : ∀ l b, b ∈ g.getD l [] -> b < w'.heap.size := by
  intro l b C;have G : l < g.length :=gr;obtain ⟨m, _, A⟩ := h6 l _ _ (X1 om) (X1 om);exact Rep.lt A b C
 have X : ∀ l b, b ∈ (fun l => match l with | 0 => [] | l + 1 => g.getD l []) l -> w.heap.size <= b /\ b < w'.heap.size := by
  intro l b C;cases l with
  | zero => simp at C
  | succ l => exact ⟨Y b (Yu C), I l b C⟩
 have N := B.setNew (s := SS env noP tmps vs w y q) (d := env.length) hq C (.con k ls) rv cells (fun l => match l with | 0 => [] | l + 1 => g.getD l []) X
  (fun l O b C hb' => gr)
  (fun l => gr)
  (fun D hpl hpt => by
   refine ⟨?_, by simp [Y0]; exact h2, fun l F => ?_, fun l lf u F hu => ?_⟩
   ·simp [Y0];exact h1.bare rfl
   ·simp only [Y0];rw [Xh, X1q om];rfl
   ·simp [Y0] at hu;obtain ⟨m, e1, A⟩ := h6 l lf u (by rw [<- Y1]; exact F) hu;obtain ⟨t, x, m'⟩ := lf;simp only at e1;have j := j _ (Y9 F);subst e1;refine LeafRel.of_rep (by cases m <;> first | trivial | exact absurd rfl (j _)) ?_;simp [Y0];refine Rep.move (fun b V Z => ⟨?_, rfl⟩) (fun _ _ => rfl) A;obtain ⟨z, W⟩ := V;have i : ∀ l, b ∉ (fun l => match l with | 0 => [] | l + 1 => g.getD l []) l := by
     intro l p;cases l with
     | zero => simp at p
     | succ l => exact W (Yu p)
    rcases z with z | z
    ·have E := U b z Z;by_cases G : b < w.heap.size
     ·exact (D b E G).1
     ·refine ⟨fun r' O p => ?_, E.2⟩;simp [upd] at p;split at p
      ·exact i O p
      ·exact E.1 _ _ p
    ·refine ⟨fun r' O p => ?_, .inr (B.mine_new z)⟩;simp [upd] at p;split at p
     ·exact i O p
     ·have : b < w.heap.size := (B.own _ _ _ p).2;omega)
 refine ⟨F, _, _, Rel.congr N (Yc (Xn _) _).symm (Y1b om _).symm, fun r => ?_⟩;rw [Yc (Xn _)];by_cases M : r = env.length
 ·subst M;rw [Y0, (Ya h3).1, (Ya h3).2];exact ⟨sm, sm⟩
 ·rw [Y3 _ _ M]; exact L r
theorem RP.result {c : Cx} {env : Env} {tmps : Array Value} {w w' : World} {vs : Nat -> Value} {S : Nat -> Prop} {rs : List (Ty × Lvl)} {xs : List (Σ t : Ty, t.D)} {j : List (List Value)} {g : List Nat} {av : AV}
  (h : RP c env tmps w noP vs) (G : ∀ cs bs, Rel c (SS env noP tmps vs w cs bs) -> ∃ l i, Rel c (SS env noP tmps vs w l i) /\ ∀ b, S b -> b < w'.heap.size -> RoS c (SS env noP tmps vs w l i) b) (I : Below w.heap.size w w') (m : ResRel S w.heap.size w' g rs xs j g) (q : g.Nodup) (p : ∀ b ∈ g, w.heap.size <= b) (y : resAV rs xs = some av) :
  RP c env tmps w' (upd noP env.length av) (upd vs env.length (resVal rs j)) := by
 obtain ⟨k, ls, rfl, A, B, C, z, D, E, F⟩ := Y55 m y;subst E;exact h.resultL G I A B C D F q p (Y4m y)
theorem Y2f (he : Enterable P f) (args : Array Value) (w : World) : (callFunc f args).run P w = .ok (.enter f args) w := by
 obtain ⟨fn, h1, h2, h3⟩ := he;have h3' : ¬ fn.name = "runtime.NumGoroutine" := by simpa using h3
 have h2' : ¬ fn.body = none :=gr;simp [callFunc, program, Sem.run, h1, h2', h3']
theorem Y3h (b : env.length = tmps.size) (h : Rel c (SS env noP tmps vs w cs bs)) : ∀ {ptys : List PTy} {args : List Operand}, args.length <= ptys.length -> ValCs c (SS env noP tmps vs w cs bs) (rdArgs env ptys args) (args.map (evT tmps)) /\ (rdArgs env ptys args).length = args.length
 | [], [], _ => ⟨rfl, rfl⟩
 | p :: ptys, [], _ => ⟨rfl, rfl⟩
 | [], x :: args, hl => by simp at hl
 | p :: ptys, x :: args, hl => by
  obtain ⟨g, i⟩ := Y3h b h (ptys := ptys) (args := args) (by simpa using hl);exact ⟨⟨_, _, rfl, Ye b h _ x, g⟩, by simp [rdArgs, i]⟩
theorem Y64 (g : RE c env a.tmps w) : ∀ {ptys : List PTy} {args : List Operand}, ∀ v ∈ rdArgs env ptys args, (∀ q ∈ v.refs, q.1 < env.length) /\ (∀ q ∈ v.ptrs, q < env.length)
 | [], args, v, b => by cases args <;> simp [rdArgs] at b
 | p :: ptys, [], v, b => by simp [rdArgs] at b
 | p :: ptys, x :: args, v, b => by
  simp [rdArgs] at b;rcases b with rfl | b
  ·exact g.refs _ x
  ·exact Y64 g v b
theorem ValCs.append {s : St} : ∀ {avs b : List AV} {us us' : List Value}, ValCs c s avs us -> ValCs c s b us' -> ValCs c s (avs ++ b) (us ++ us')
 | [], b, us, us', h, h' => by rw [show us = [] from h]; exact h'
 | v :: avs, b, us, us', ⟨u, us2, e, h1, h2⟩, h' => ⟨u, us2 ++ us', by rw [e]; rfl, h1, h2.append h'⟩
theorem Ydy (hO : OrcOk P sig orc) {j : Call} {extra : List AV} {ex : List Value} (hop : o.op = .call j) (X : o.dst = some d) (hr : RE c env a.tmps w) (hd : d < env.length)
  (hrun : Enterable P f -> (execOp a.eval o).run P w = .ok (.enter f (j.args.map (evT a.tmps) ++ ex.toArray)) w) (hex : ∀ vs cs bs, Rel c (SS env noP a.tmps vs w cs bs) -> ValCs c (SS env noP a.tmps vs w cs bs) extra ex) (hexr : ∀ v ∈ extra, (∀ q ∈ v.refs, q.1 < env.length)) (hsg : sig f = some sg) (W : sg.box = none /\ sg.newb = none) (V : sg.muts = false) (how : sg.own = false) (hlen1 : (rdArgs env sg.params j.args.toList ++ extra).length = sg.params.length) (hlen2 : (rdArgs env sg.params j.args.toList ++ extra).length = j.args.toList.length + extra.length) (Z : allFresh sg.results = true \/ allCon (rdArgs env sg.params j.args.toList ++ extra) = true) {rvs : List RV} (hrv : RVs caps env sg.params (rdArgs env sg.params j.args.toList ++ extra) = some rvs) {q : OrcRes} (A : orc f rvs = some q) (G : (q.run.bind fun xs => match resAV sg.results (q.pk xs) with
     | none => none
     | some v => K (setD (some d) (if allFresh sg.results then env else freezeArgs sg.results (rdArgs env sg.params j.args.toList ++ extra) env) v)) = some r) (hn : Next c a K r env.length next) : o.wp P a w next Q := by
 obtain ⟨x0, m, G⟩ := Xu.1 G;obtain ⟨Y, B⟩ := hO f sg rvs q x0 hsg A m;generalize q.pk x0 = res at *;rw [W.1, W.2, V, how] at B;cases N : resAV sg.results res with
 | none => grind
 | some av =>
  rw [N] at G;obtain ⟨vs, h⟩ := hr;have hr : RE c env a.tmps w := ⟨vs, h⟩;obtain ⟨z, cs, bs, g, M⟩ := h;have h : RP c env a.tmps w noP vs := ⟨z, cs, bs, g, M⟩;generalize hvs : rdArgs env sg.params j.args.toList ++ extra = avs at *;have I : j.args.toList.length <= sg.params.length :=gr;have U : ValCs c (SS env noP a.tmps vs w cs bs) avs (j.args.toList.map (evT a.tmps) ++ ex) := by
   rw [<- hvs];exact (Y3h z g I).1.append (hex vs cs bs g)
  have O : ∀ v ∈ avs, ∀ q ∈ v.refs, q.1 < env.length := by
   intro v p;rw [<- hvs] at p;rcases X6.1 p with p | p
   ·exact (Y64 hr v p).1
   ·grind
  let S : Nat -> Prop := fun b => RoS c (SS env noP a.tmps vs w cs bs) b \/ (if allFresh sg.results then True else ∃ v ∈ avs, ∃ q ∈ v.refs, b ∈ bs q.1 (q.2 + 1))
  have hrvr : RVRels S w rvs (j.args.toList.map (evT a.tmps) ++ ex) := by
   refine Y5w g (fun b i => .inl i) U hrv (fun v p q A b i => .inr ?_) (fun v p q A l b i => .inr ?_)
   ·grind
   ·split
    ·trivial
    ·rename_i hnf;exfalso;have D := Z.resolve_left hnf;have : ∀ {avs : List AV}, allCon avs = true -> ∀ v ∈ avs, v.ptrs = [] := by
      intro avs
      induction avs with
      | nil => simp
      | cons u avs ih =>
       intro D v p;cases u with
       | con k ls =>
        rcases Xw.1 p with rfl | p
        ·rfl
        ·exact ih D v p
       | _ => simp [allCon] at D
     rw [this D v p] at A;simp at A
  unfold Oper.wp;rw [hrun Y];have L : j.args.map (evT a.tmps) ++ ex.toArray = (j.args.toList.map (evT a.tmps) ++ ex).toArray :=gr;rw [L];refine X2x (B S w _ hrvr) ?_
  rintro e w' ⟨chs, bsx, rfl, i, m, hnd, F⟩
  rw [X];by_cases y : allFresh sg.results = true
  ·rw [X3 y] at G;have hp := h.result (S := fun _ => False) (fun cs bs hr => ⟨cs, bs, hr, fun b i => i.elim⟩) i (Y4b y m) hnd F N;have := RE.commit hp hd;rw [Y0] at this;exact hn _ _ _ G this (by rw [Y1e]) rfl
  ·rw [X5 y] at G;obtain ⟨C, hr1, k1, k2⟩ := g.freezeArgs_ sg.results avs (Z.resolve_left y);have e := Y2p sg.results avs (ps := noP) O (fun r => .inl rfl);have E := Y3d sg.results avs env;have hr2 : Rel c (SS (freezeArgs sg.results avs env) noP a.tmps vs w cs C) := Rel.congr hr1 e rfl;have h1 : RP c (freezeArgs sg.results avs env) a.tmps w noP vs := by
    refine ⟨E.trans z, cs, C, hr2, fun r => ?_⟩;rw [E, <- e];have := Y27 sg.results avs (ovl env noP) r;exact ⟨fun q A => (M r).1 q (this.1 q A), fun q A => (M r).2 q (this.2 q A)⟩
   have hp := h1.result (S := S) (fun cs' bs' hr' => ⟨cs, C, hr2, fun b i _ => ?_⟩) i m hnd F N
   ·have := RE.commit hp (by rw [E]; exact hd);rw [Y0] at this;exact hn _ _ _ G this (by rw [Y1e, E]) rfl
   ·rcases i with i | i
    ·exact ⟨fun r l V => i.1 r l (k1 r l b V), i.2⟩
    ·rw [X5 y] at i;obtain ⟨v, p, q, A, i⟩ := i;refine ⟨fun r l V => ?_, .inr (g.own _ _ _ i).1⟩;have hm' : b ∈ bs r l := k1 r l b V;obtain ⟨rfl, rfl⟩ := g.disj _ _ _ _ _ hm' i;have : b ∈ C q.1 (q.2 + 1) := V;rw [k2 v p q A] at this;simp at this
end
end Go.FP
